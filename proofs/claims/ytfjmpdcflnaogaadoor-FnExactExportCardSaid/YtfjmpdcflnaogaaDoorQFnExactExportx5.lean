/-
Plain functions for the Go functions that a law reaches, each with a proof that the translation's call comes to just that; no conditions beyond those written in each.
-/
import Derived.Test.YtfjmpdcflnaogaaDoorSFnExactExport
import Derived.Test.YtfjmpdcflnaogaaDoorQFnExactExportx1
import Derived.Test.YtfjmpdcflnaogaaDoorQFnExactExportx4
namespace Go.Proofs.YtfjmpdcflnaogaaDoor.QFnExactExport
open Go.RowKit Go.Proofs.YtfjmpdcflnaogaaDoorW.PrintWords Go.Proofs.YtfjmpdcflnaogaaDoorW.PrintLast Go.Proofs.YtfjmpdcflnaogaaDoorW.PrintMore
attribute [local go_sem] max2_int min2_int max_two min_two max_three min_three max_four min_four   -- for this text's walks alone
set_option linter.unusedVariables false
set_option linter.unusedSimpArgs false

attribute [local go_sem high] eqA27
/-! ### impl_CellsOf: function 38 -/
mutual
def impl_CellsOf.j0 : Nat → Int → Bool → Int → ByteArray → Int → Bool → Int → Option (List Int)
 | 0, _, _, _, _, _, _, _ => none
 | k + 1, x3, x11, x365000, x365001, x365002, x365003, x365004 => if x11 = true then ((impl_Pack.f k x365001).bind fun t369 => (impl_CellsOf.l0 k x3 (([] : List Int)) t369 (t369.length : Int) 0)) else (if (x365000 == 7 && (x365001.toList == ([] : List UInt8) && (x365004 == 0))) = true then ((impl_numberCells.f x365002 x365003 8 2).bind fun t376 => (some t376)) else (if (x365000 == 8 && (x365001.toList == ([] : List UInt8) && (x365004 == 0))) = true then ((impl_numberCells.f x365002 x365003 6 5).bind fun t379 => (some t379)) else (if (x365000 == 9 && (!x365003 && (x365004 == 0))) = true then ((impl_Pack.f k x365001).bind fun t382 => (if (t382.length : Int) = 1 then (if 0 < (t382.length : Int) then (some (([Go.bits .or .u32 (((rd t382 0) * 16) % 4294967296) 12, (x365002) % 4294967296] : List Int))) else (none)) else (some ([] : List Int)))) else (if (x365000 == 0 && (x365001.toList == ([] : List UInt8) && (x365002 == 0 && (!x365003)))) = true then (some (([x365004] : List Int))) else (some ([] : List Int))))))
def impl_CellsOf.l0 : Nat → Int → List Int → List Int → Int → Int → Option (List Int)
 | 0, _, _, _, _, _ => none
 | k + 1, x3, x4, x26, x27, x28 => if x28 < x27 then (if 0 ≤ x28 then (if x28 < (x26.length : Int) then (if x4.length < 35184372088832 then (impl_CellsOf.l0 k 0 (x4 ++ [Go.bits .or .u32 (((rd x26 x28) * 16) % 4294967296) x3]) x26 x27 (wrap64 (x28 + 1))) else (none)) else (none)) else (none)) else (some x4)
end
def impl_CellsOf.f (k : Nat) (a0_0 : Int) (a0_1 : ByteArray) (a0_2 : Int) (a0_3 : Bool) (a0_4 : Int) : Option (List Int) := (impl_nameTag.f a0_0).bind fun t365 => (if t365 > 0 then (impl_CellsOf.j0 k t365 (a0_2 == 0 && (!a0_3 && (a0_4 == 0))) a0_0 a0_1 a0_2 a0_3 a0_4) else (impl_CellsOf.j0 k t365 false a0_0 a0_1 a0_2 a0_3 a0_4))
theorem impl_CellsOf.mono_l : ∀ k, (∀ y0 y1 y2 y3 y4 y5 y6, LeO (impl_CellsOf.j0 k y0 y1 y2 y3 y4 y5 y6) (impl_CellsOf.j0 (k + 1) y0 y1 y2 y3 y4 y5 y6)) ∧ (∀ y0 y1 y2 y3 y4, LeO (impl_CellsOf.l0 k y0 y1 y2 y3 y4) (impl_CellsOf.l0 (k + 1) y0 y1 y2 y3 y4))
 | 0 => ⟨fun _ _ _ _ _ _ _ r h => by simp [impl_CellsOf.j0] at h, fun _ _ _ _ _ r h => by simp [impl_CellsOf.l0] at h⟩
 | k + 1 => by
  obtain ⟨ih0, ih1⟩ := impl_CellsOf.mono_l k
  refine ⟨?_, ?_⟩
  ·intro y0 y1 y2 y3 y4 y5 y6
   unfold impl_CellsOf.j0
   repeat' first
   | (with_reducible exact ih0 _ _ _ _ _ _ _)
   | (with_reducible exact ih1 _ _ _ _ _)
   | (with_reducible exact impl_Pack.mono _ _)
   | (with_reducible exact LeO.refl _)
   | (with_reducible exact LeO.none _)
   | (with_reducible refine LeO.ite ?_ ?_)
   | (with_reducible refine LeO.bind ?_ (fun _ => ?_))
   | exact ih0 _ _ _ _ _ _ _
   | exact ih1 _ _ _ _ _
   | exact impl_Pack.mono _ _
   | exact LeO.none _
   | refine LeO.ite ?_ ?_
   | refine LeO.bind ?_ (fun _ => ?_)
  ·intro y0 y1 y2 y3 y4
   unfold impl_CellsOf.l0
   repeat' first
   | (with_reducible exact ih0 _ _ _ _ _ _ _)
   | (with_reducible exact ih1 _ _ _ _ _)
   | (with_reducible exact impl_Pack.mono _ _)
   | (with_reducible exact LeO.refl _)
   | (with_reducible exact LeO.none _)
   | (with_reducible refine LeO.ite ?_ ?_)
   | (with_reducible refine LeO.bind ?_ (fun _ => ?_))
   | exact ih0 _ _ _ _ _ _ _
   | exact ih1 _ _ _ _ _
   | exact impl_Pack.mono _ _
   | exact LeO.none _
   | refine LeO.ite ?_ ?_
   | refine LeO.bind ?_ (fun _ => ?_)
theorem impl_CellsOf.mono : ∀ a0 a1 a2 a3 a4 k, LeO (impl_CellsOf.f k a0 a1 a2 a3 a4) (impl_CellsOf.f (k + 1) a0 a1 a2 a3 a4) := by
 intro a0 a1 a2 a3 a4 k
 obtain ⟨ih0, ih1⟩ := impl_CellsOf.mono_l k
 unfold impl_CellsOf.f
 repeat' first
   | (with_reducible exact ih0 _ _ _ _ _ _ _)
   | (with_reducible exact ih1 _ _ _ _ _)
   | (with_reducible exact impl_Pack.mono _ _)
   | (with_reducible exact LeO.refl _)
   | (with_reducible exact LeO.none _)
   | (with_reducible refine LeO.ite ?_ ?_)
   | (with_reducible refine LeO.bind ?_ (fun _ => ?_))
   | exact ih0 _ _ _ _ _ _ _
   | exact ih1 _ _ _ _ _
   | exact impl_Pack.mono _ _
   | exact LeO.none _
   | refine LeO.ite ?_ ?_
   | refine LeO.bind ?_ (fun _ => ?_)
def impl_CellsOf.T18 : Bool × List (List Nat × List Nat) := (true, [([], []), ([0], [0]), ([1], [1]), ([2], [2]), ([3], [3]), ([], []), ([5], [5]), ([6], [6]), ([4, 7], [4, 7]), ([8, 0, 1, 2, 3, 4, 5, 6, 7, 8], [8])])
def impl_CellsOf.B18 : List Nat := [0, 1, 3, 7, 15, 0, 32, 96, 255, 511]
theorem impl_CellsOf.tab18 : rtab .any (opsOf Tryd.f38 18) = impl_CellsOf.T18 := Z0
theorem impl_CellsOf.bits18 : waitsOk impl_CellsOf.T18.2 impl_CellsOf.B18 = true := Z0
set_option maxHeartbeats 8000000 in
set_option maxRecDepth 100000 in
theorem impl_CellsOf.calls (k : Nat) (a0_0 : Int) (a0_1 : ByteArray) (a0_2 : Int) (a0_3 : Bool) (a0_4 : Int) (r : List Int) (w : World) (h : impl_CellsOf.f k a0_0 a0_1 a0_2 a0_3 a0_4 = some r) :
  Calls Tryd.prog 38 #[.agg #[.int .i64 a0_0, .string a0_1, .int .i32 a0_2, .bool a0_3, .int .u32 a0_4]] w fun e w' => ∃ v0_ : Value, e = .returned (v0_) ∧ Kd.R (Kd.int .u32) 22 w' w.heap.size (fun _ => True) v0_ r ∧ Below w.heap.size w w' := by
 have hu27 := Tryd.underlying27
 have HB := Z (Below.refl w.heap.size w)
 have H : ((impl_nameTag.f a0_0).bind fun t365 => (if t365 > 0 then (impl_CellsOf.j0 k t365 (a0_2 == 0 && (!a0_3 && (a0_4 == 0))) a0_0 a0_1 a0_2 a0_3 a0_4) else (impl_CellsOf.j0 k t365 false a0_0 a0_1 a0_2 a0_3 a0_4))) = some r := h
 clear h
 replace H := Option.bind_eq_some_iff.mp H
 obtain ⟨t365, A20, H⟩ := H
 replace H : (if t365 > 0 then (impl_CellsOf.j0 k t365 (a0_2 == 0 && (!a0_3 && (a0_4 == 0))) a0_0 a0_1 a0_2 a0_3 a0_4) else (impl_CellsOf.j0 k t365 false a0_0 a0_1 a0_2 a0_3 a0_4)) = some r := H
 have A2 := Aside0.mk A20
 clear A20
 have HC3 := Aside0.mk H
 clear H
 go_enter Tryd.func38, Tryd.ntmps38
 go_upto_region 2 with (first | ((with_reducible refine gate_dst (N := 1) rfl ?_); refine box_event (by rfl) (N := 1) (by rfl) (cs := #[.int .i64 a0_0, .string a0_1, .int .i32 a0_2, .bool a0_3, .int .u32 a0_4]) (t := 27) Z3 ?_; intro gb364 hg w4 hbox hb; have BK364 := Z (hbox); have GW364 := Z ((Z79 : w.heap.size ≤ gb364)); have GE364 := Z ((Z79 : w.heap.size ≤ gb364)); replace HB := Z (below_step Z67 hb); clear hb hbox hg; have hcz5_0 : w4.cell? ⟨gb364, 0, none⟩ = some (.int .i64 a0_0) := (blk_cell BK364.out 0).trans rfl; have hcz5_1 : w4.cell? ⟨gb364, 1, none⟩ = some (.string a0_1) := (blk_cell BK364.out 1).trans rfl; have hcz5_2 : w4.cell? ⟨gb364, 2, none⟩ = some (.int .i32 a0_2) := (blk_cell BK364.out 2).trans rfl; have hcz5_3 : w4.cell? ⟨gb364, 3, none⟩ = some (.bool a0_3) := (blk_cell BK364.out 3).trans rfl; have hcz5_4 : w4.cell? ⟨gb364, 4, none⟩ = some (.int .u32 a0_4) := (blk_cell BK364.out 4).trans rfl; have hfz5_0 := blk_frozen BK364.out 0; have hfz5_1 := blk_frozen BK364.out 1; have hfz5_2 := blk_frozen BK364.out 2; have hfz5_3 := blk_frozen BK364.out 3; have hfz5_4 := blk_frozen BK364.out 4) | ((with_reducible refine gate_callee (f := 57) rfl ?_); refine goesL_ (some 10) rfl rfl Tryd.func57 Z0 rfl #[.int .i64 a0_0] rfl Z9 ?_; (with_reducible refine (impl_nameTag.calls a0_0 t365 _ A2.out).mono ?_); rintro e w' ⟨rfl, ⟨nd, rfl⟩⟩; refine ⟨_, rfl, ?_⟩))
 (try simp only [Act.put, List.setIfInBounds_toArray, List.set_cons_zero, List.set_cons_succ])
 go_cut [11] (fun v11 wc => ∃ (kq : Nat) (x11_2 : Bool), v11 = .bool x11_2 ∧ Aside0 (impl_CellsOf.j0 kq t365 x11_2 a0_0 a0_1 a0_2 a0_3 a0_4 = some r) ∧ Aside0 (kq ≤ k) ∧ Aside0 (wc.heap[gb364]? = some (.cells #[.int .i64 a0_0, .string a0_1, .int .i32 a0_2, .bool a0_3, .int .u32 a0_4] 27 (0, 0))) ∧ Aside0 (Below w.heap.size w wc))
 case first =>
  have H := HC3.out
  clear HC3
  by_cases c6 : t365 > 0
  ·rw [if_pos c6] at H
   have c6b0 : decide (0 < t365) = true := decide_eq_true c6
   clear c6
   (first | rw [c6b0] | (simp only [i64_w, i32_w]; rw [c6b0]) | skip)
   have H' := Aside0.mk H
   clear H
   have hcz7_0 : w4.cell? ⟨gb364, 0, none⟩ = some (.int .i64 a0_0) := (blk_cell BK364.out 0).trans rfl
   have hcz7_1 : w4.cell? ⟨gb364, 1, none⟩ = some (.string a0_1) := (blk_cell BK364.out 1).trans rfl
   have hcz7_2 : w4.cell? ⟨gb364, 2, none⟩ = some (.int .i32 a0_2) := (blk_cell BK364.out 2).trans rfl
   have hcz7_3 : w4.cell? ⟨gb364, 3, none⟩ = some (.bool a0_3) := (blk_cell BK364.out 3).trans rfl
   have hcz7_4 : w4.cell? ⟨gb364, 4, none⟩ = some (.int .u32 a0_4) := (blk_cell BK364.out 4).trans rfl
   have hfz7_0 := blk_frozen BK364.out 0
   have hfz7_1 := blk_frozen BK364.out 1
   have hfz7_2 := blk_frozen BK364.out 2
   have hfz7_3 := blk_frozen BK364.out 3
   have hfz7_4 := blk_frozen BK364.out 4
   go_wp2
   go_meet
   case rel => exact ⟨_, ((a0_2 == 0 && (!a0_3 && (a0_4 == 0)))), Z7, H', ⟨Z14⟩, ⟨(Z15 BK364)⟩, ⟨Z67⟩⟩
  ·rw [if_neg c6] at H
   have c6b0 : decide (0 < t365) = false := decide_eq_false c6
   clear c6
   (first | rw [c6b0] | (simp only [i64_w, i32_w]; rw [c6b0]) | skip)
   have H' := Aside0.mk H
   clear H
   go_wp2
   go_meet
   case rel => exact ⟨_, (false), Z7, H', ⟨Z14⟩, ⟨(Z15 BK364)⟩, ⟨Z67⟩⟩
 case rest =>
  clear HC3
  try clear p2
  try clear c3
  try clear c5
  try clear c6
  try clear c6b0
  try clear hcz5_0
  try clear hcz5_1
  try clear hcz5_2
  try clear hcz5_3
  try clear hcz5_4
  try clear hcz7_0
  try clear hcz7_1
  try clear hcz7_2
  try clear hcz7_3
  try clear hcz7_4
  try clear hfz5_0
  try clear hfz5_1
  try clear hfz5_2
  try clear hfz5_3
  try clear hfz5_4
  try clear hfz7_0
  try clear hfz7_1
  try clear hfz7_2
  try clear hfz7_3
  try clear hfz7_4
  obtain ⟨kq, x11_2, rfl, HA, HJ2, BK364, HB⟩ := hcut
  cases kq with
  | zero => exact absurd HA.out (by simp [impl_CellsOf.j0])
  | succ kj2 =>
   have H := HA.out
   clear HA
   simp only [impl_CellsOf.j0] at H
   by_cases c8 : x11_2 = true
   ·subst c8
    have H1 : ((impl_Pack.f kj2 a0_1).bind fun t369 => (impl_CellsOf.l0 kj2 t365 (([] : List Int)) t369 (t369.length : Int) 0)) = some r := Z2
    clear H
    have H := H1
    clear H1
    obtain ⟨y366, hy366⟩ : ∃ y_ : List Int, y_ = (([] : List Int)) := ⟨_, rfl⟩
    replace H : ((impl_Pack.f kj2 a0_1).bind fun t369 => (impl_CellsOf.l0 kj2 t365 y366 t369 (t369.length : Int) 0)) = some r := by first | (rw [hy366]; with_reducible exact H) | (have H2_ := (Option.bind_some _ _).symm.trans H; rw [hy366]; with_reducible exact H2_) | (have H2_ := (Option.bind_some _ _).symm.trans H; with_reducible exact H2_) | with_reducible exact H | (rw [hy366]; exact H) | exact H
    have Ny366 := Aside0.mk hy366
    clear hy366
    replace H := Option.bind_eq_some_iff.mp H
    obtain ⟨t369, A90, H⟩ := H
    replace H : (impl_CellsOf.l0 kj2 t365 y366 t369 (t369.length : Int) 0) = some r := H
    have A9 := Aside0.mk A90
    clear A90
    have H' := Aside0.mk H
    clear H
    go_wp2_with (first | ((with_reducible refine gate_dst (N := 23) rfl ?_); refine Kd.R_lit (Kd.int .u32) _ 22 (by rfl) (N := 23) (by rfl) (xs := ([] : List Int)) (inner := []) (ok := fun _ => True) (okp := fun _ => True) Z3 (Reps.none _ _) (fun _ hk => hk) trivial (Below.refl _ _) (Nat.le_refl _) (by simp) ?_; intro v367 w10 ho11 hb hg_ hnew_; clear hg_ hnew_; (first | rw [← Ny366.out] at ho11 | (simp only [Int.reduceToNat] at ho11; rw [← Ny366.out] at ho11)); have HO368 := Z (Kd.R_lower ho11 (below_size Z67)); replace BK364 := Z (blk_below (g := gb364) (o := .cells #[.int .i64 a0_0, .string a0_1, .int .i32 a0_2, .bool a0_3, .int .u32 a0_4] 27 (0, 0)) (Z15 BK364) hb); replace HB := Z (below_step Z67 hb); clear hb ho11; have hcz12_0 : w10.cell? ⟨gb364, 0, none⟩ = some (.int .i64 a0_0) := (blk_cell BK364.out 0).trans rfl; have hcz12_1 : w10.cell? ⟨gb364, 1, none⟩ = some (.string a0_1) := (blk_cell BK364.out 1).trans rfl; have hcz12_2 : w10.cell? ⟨gb364, 2, none⟩ = some (.int .i32 a0_2) := (blk_cell BK364.out 2).trans rfl; have hcz12_3 : w10.cell? ⟨gb364, 3, none⟩ = some (.bool a0_3) := (blk_cell BK364.out 3).trans rfl; have hcz12_4 : w10.cell? ⟨gb364, 4, none⟩ = some (.int .u32 a0_4) := (blk_cell BK364.out 4).trans rfl; have hfz12_0 := blk_frozen BK364.out 0; have hfz12_1 := blk_frozen BK364.out 1; have hfz12_2 := blk_frozen BK364.out 2; have hfz12_3 := blk_frozen BK364.out 3; have hfz12_4 := blk_frozen BK364.out 4) | ((with_reducible refine gate_callee (f := 58) rfl ?_); refine goesL_ (some 26) rfl rfl Tryd.func58 Z0 rfl #[.string a0_1] rfl Z9 ?_; (with_reducible refine (impl_Pack.calls kj2 a0_1 t369 _ A9.out).mono ?_); rintro e w13 ⟨v370, rfl, ho0, hb⟩; refine ⟨_, rfl, ?_⟩; have HO371 := Z (Kd.R_lower (Kd.R_new' ho0 (Kd.R_lt (Z6 HO368))) (below_size Z67)); replace HO368 := Z (Kd.R_elder' (Z6 HO368) (Kd.R_base ho0) hb); replace BK364 := Z (blk_below (g := gb364) (o := .cells #[.int .i64 a0_0, .string a0_1, .int .i32 a0_2, .bool a0_3, .int .u32 a0_4] 27 (0, 0)) (Z15 BK364) hb); replace HB := Z (below_step Z67 hb); (try clear hb); (try clear hb2); (try clear hk); (try clear hi); (try clear ho0); obtain ⟨Ao14, co14, eo14⟩ := Kd.R_slice HO371.out; subst eo14))
    go_loopg [3, 4, 28] kj2 (fun kq v3 v4 v28 w' => ∃ (x3_2 : Int) (x4_2 : List Int) (x28_2 : Int), v3 = .int .u32 x3_2 ∧ v28 = .int .i64 x28_2 ∧ Aside0 (impl_CellsOf.l0 kq x3_2 x4_2 t369 (t369.length : Int) x28_2 = some r) ∧ Aside0 (kq ≤ kj2) ∧ Aside0 (Kd.R (Kd.int .u32) 22 w' w.heap.size (fun k_ => some k_ ≠ ((.slice Ao14 t369.length co14) : Value).ownBlock) v4 x4_2) ∧ Aside0 (Kd.R (Kd.int .u32) 22 w' w.heap.size (fun k_ => some k_ ≠ (v4 : Value).ownBlock) (.slice Ao14 t369.length co14) t369) ∧ Aside0 (w'.heap[gb364]? = some (.cells #[.int .i64 a0_0, .string a0_1, .int .i32 a0_2, .bool a0_3, .int .u32 a0_4] 27 (0, 0))) ∧ Aside0 (Below w.heap.size w w'))
    case atStart => exact ⟨(t365), (y366), (0), Z7, Z7, H', ⟨Nat.le_refl _⟩, ⟨(Z47 HO368)⟩, ⟨(Z47 HO371)⟩, ⟨(Z15 BK364)⟩, ⟨Z67⟩⟩
    case round =>
     clear H'
     try clear p2
     try clear c3
     try clear c5
     try clear c6
     try clear c6b0
     try clear c8
     try clear hcz12_0
     try clear hcz12_1
     try clear hcz12_2
     try clear hcz12_3
     try clear hcz12_4
     try clear hcz5_0
     try clear hcz5_1
     try clear hcz5_2
     try clear hcz5_3
     try clear hcz5_4
     try clear hcz7_0
     try clear hcz7_1
     try clear hcz7_2
     try clear hcz7_3
     try clear hcz7_4
     try clear hfz12_0
     try clear hfz12_1
     try clear hfz12_2
     try clear hfz12_3
     try clear hfz12_4
     try clear hfz5_0
     try clear hfz5_1
     try clear hfz5_2
     try clear hfz5_3
     try clear hfz5_4
     try clear hfz7_0
     try clear hfz7_1
     try clear hfz7_2
     try clear hfz7_3
     try clear hfz7_4
     try clear p2
     obtain ⟨x3_2, x4_2, x28_2, rfl, rfl, HA, HK2, HO_4, HO_26, BK364, HB⟩ := hrel
     cases gk with
     | zero => exact absurd HA.out (by simp [impl_CellsOf.l0])
     | succ k2 =>
      have H := HA.out
      clear HA
      simp only [impl_CellsOf.l0] at H
      by_cases c15 : x28_2 < (t369.length : Int)
      ·rw [if_pos c15] at H
       have c15b0 : decide (x28_2 < (t369.length : Int)) = true := decide_eq_true c15
       clear c15
       by_cases c16 : 0 ≤ x28_2
       ·rw [if_pos c16] at H
        have c16b0 : decide (0 ≤ x28_2) = true := decide_eq_true c16
        clear c16
        by_cases c17 : x28_2 < (t369.length : Int)
        ·rw [if_pos c17] at H
         have c17b0 : decide (x28_2 < (t369.length : Int)) = true := decide_eq_true c17
         clear c17
         by_cases c18 : x4_2.length < 35184372088832
         ·rw [if_pos c18] at H
          have LMc18 := Aside0.mk c18
          clear c18
          obtain ⟨y373, hy373⟩ : ∃ y_ : List Int, y_ = (x4_2 ++ [Go.bits .or .u32 (((rd t369 x28_2) * 16) % 4294967296) x3_2]) := ⟨_, rfl⟩
          replace H : (impl_CellsOf.l0 k2 0 y373 t369 (t369.length : Int) (wrap64 (x28_2 + 1))) = some r := by first | (rw [hy373]; with_reducible exact H) | (have H2_ := (Option.bind_some _ _).symm.trans H; rw [hy373]; with_reducible exact H2_) | (have H2_ := (Option.bind_some _ _).symm.trans H; with_reducible exact H2_) | with_reducible exact H | (rw [hy373]; exact H) | exact H
          have Ny373 := Aside0.mk hy373
          clear hy373
          have H' := Aside0.mk H
          clear H
          have p372 : 0 ≤ (x28_2 : Int) := of_decide_eq_true Z10
          have q372 : x28_2 < (t369.length : Int) := of_decide_eq_true Z10
          obtain ⟨ad372, e372, hx372_0⟩ := Kd.at_int (Kd.R_reads' HO_26.out).2.2 x28_2 p372 q372
          cases e372
          replace p372 := eq_true p372
          replace q372 := eq_true q372
          go_wp2_with (first | ((with_reducible refine gate_builtin (b := .append) (xs := #[.tmp 32, .tmp 37]) rfl ?_); at_builtin; refine Kd.R_append (Kd.int .u32) (w0 := w) w.heap.size rfl (.tmp 32) (.tmp 37) 30 22 (.int .u32 0) 4 rfl Tryd.underlying30 info22 rfl (by decide) (by omega) u4 x4_2 (Go.bits .or .u32 (((rd t369 x28_2) * 16) % 4294967296) x3_2) [.int .u32 (Go.bits .or .u32 (((rd t369 x28_2) * 16) % 4294967296) x3_2)] (fun k_ => some k_ ≠ (.slice (some ad372) t369.length co14 : Value).ownBlock) (fun _ => False) rfl rfl ?aP (fun _ hk => hk.elim) ?aF ?aO ?aB ?aS ?aL ?_; (case aP => exact rfl); (case aB => exact Z67); (case aF => exact (fun k_ hk => Kd.fresh' (Kd.R_lt (Z6 HO_26)) k_ hk)); (case aO => exact (Z6 HO_4)); (case aS => exact (below_size Z67)); (case aL => have := LMc18.out; omega); intro v374 w19 ho hb hg hat; rw [← Ny373.out] at ho; replace HO_26 := Z (Kd.R_after (ok := (fun _ => True)) (by (with_reducible repeat (first | apply Kd.R_alloc | apply Kd.R_drewN | apply Kd.R_drew)); exact Kd.R_mono HO_26.out (fun _ hk => ⟨trivial, hk⟩)) hg hat); replace BK364 := Z (blk_grown (g := gb364) (o := .cells #[.int .i64 a0_0, .string a0_1, .int .i32 a0_2, .bool a0_3, .int .u32 a0_4] 27 (0, 0)) (Z15 BK364) hg (Kd.R_ne HO_4.out BK364.out (by decide))); replace HB := Z (hb); have HO375 := Z (ho); clear HO_4; clear ho hb hg hat))
          go_roundg k2
          case measure => have := HJ2.out; have := HK2.out; omega
          case rel => exact ⟨(0), (y373), (wrap64 (x28_2 + 1)), Z7, Z7, H', ⟨by have := HJ2.out; have := HK2.out; omega⟩, ⟨(Z6 HO375)⟩, ⟨(Z47 HO_26)⟩, ⟨(Z15 BK364)⟩, ⟨Z67⟩⟩
         ·rw [if_neg c18] at H
          exact absurd H (by simp)
        ·rw [if_neg c17] at H
         exact absurd H (by simp)
       ·rw [if_neg c16] at H
        exact absurd H (by simp)
      ·rw [if_neg c15] at H
       have c15b0 : decide (x28_2 < (t369.length : Int)) = false := decide_eq_false c15
       clear c15
       obtain rfl := Option.some.inj H
       go_wp2
       go_ret
       exact ⟨_, Z68, (Z16 HO_4), Z67⟩
   ·replace c8 := Bool.eq_false_iff.mpr c8
    subst c8
    have H1 : (if (a0_0 == 7 && (a0_1.toList == ([] : List UInt8) && (a0_4 == 0))) = true then ((impl_numberCells.f a0_2 a0_3 8 2).bind fun t376 => (some t376)) else (if (a0_0 == 8 && (a0_1.toList == ([] : List UInt8) && (a0_4 == 0))) = true then ((impl_numberCells.f a0_2 a0_3 6 5).bind fun t379 => (some t379)) else (if (a0_0 == 9 && (!a0_3 && (a0_4 == 0))) = true then ((impl_Pack.f kj2 a0_1).bind fun t382 => (if (t382.length : Int) = 1 then (if 0 < (t382.length : Int) then (some (([Go.bits .or .u32 (((rd t382 0) * 16) % 4294967296) 12, (a0_2) % 4294967296] : List Int))) else (none)) else (some ([] : List Int)))) else (if (a0_0 == 0 && (a0_1.toList == ([] : List UInt8) && (a0_2 == 0 && (!a0_3)))) = true then (some (([a0_4] : List Int))) else (some ([] : List Int)))))) = some r := by rw [if_neg (show ¬ (false = true) by decide)] at H; exact H
    clear H
    have H := H1
    clear H1
    by_cases c20 : (a0_0 == 7 && (a0_1.toList == ([] : List UInt8) && (a0_4 == 0))) = true
    ·rw [if_pos c20] at H
     have c20b0 : (a0_0 == 7 && (a0_1.toList == ([] : List UInt8) && (a0_4 == 0))) = true := c20
     (try (have c20b1 : (a0_0 == 7 && (a0_1.toList.isEmpty && (a0_4 == 0))) = true := by have h_ : (a0_0 == 7 && (a0_1.toList == ([] : List UInt8) && (a0_4 == 0))) = true := c20; simpa only [List.beq_nil_eq] using h_))
     (try (have c20b2 : decide (a0_0 = 7 && (a0_1.toList == ([] : List UInt8) && (a0_4 == 0))) = true := Z48))
     (try (have c20b3 : (a0_0 == 7 && (a0_1.toList == ([] : List UInt8) && (a0_4 == 0))) = true := Z48))
     clear c20
     replace H := Option.bind_eq_some_iff.mp H
     obtain ⟨t376, A210, H⟩ := H
     replace H : (some t376) = some r := H
     have A21 := Aside0.mk A210
     clear A210
     obtain rfl := Option.some.inj H
     have hcz22_0 : wc.cell? ⟨gb364, 0, none⟩ = some (.int .i64 a0_0) := (blk_cell BK364.out 0).trans rfl
     have hcz22_1 : wc.cell? ⟨gb364, 1, none⟩ = some (.string a0_1) := (blk_cell BK364.out 1).trans rfl
     have hcz22_2 : wc.cell? ⟨gb364, 2, none⟩ = some (.int .i32 a0_2) := (blk_cell BK364.out 2).trans rfl
     have hcz22_3 : wc.cell? ⟨gb364, 3, none⟩ = some (.bool a0_3) := (blk_cell BK364.out 3).trans rfl
     have hcz22_4 : wc.cell? ⟨gb364, 4, none⟩ = some (.int .u32 a0_4) := (blk_cell BK364.out 4).trans rfl
     have hfz22_0 := blk_frozen BK364.out 0
     have hfz22_1 := blk_frozen BK364.out 1
     have hfz22_2 := blk_frozen BK364.out 2
     have hfz22_3 := blk_frozen BK364.out 3
     have hfz22_4 := blk_frozen BK364.out 4
     go_wp2_with (first | ((with_reducible refine gate_callee (f := 59) rfl ?_); refine goesL_ (some 53) rfl rfl Tryd.func59 Z0 rfl #[.int .i32 a0_2, .bool a0_3, .int .u32 8, .int .u32 2] rfl Z9 ?_; (with_reducible refine (impl_numberCells.calls a0_2 a0_3 8 2 t376 _ A21.out).mono ?_); rintro e w23 ⟨v377, rfl, ho0, hb⟩; refine ⟨_, rfl, ?_⟩; have HO378 := Z (Kd.R_lower ho0 (below_size Z67)); replace BK364 := Z (blk_below (g := gb364) (o := .cells #[.int .i64 a0_0, .string a0_1, .int .i32 a0_2, .bool a0_3, .int .u32 a0_4] 27 (0, 0)) (Z15 BK364) hb); replace HB := Z (below_step Z67 hb); (try clear hb); (try clear hb2); (try clear hk); (try clear hi); (try clear ho0)))
     go_ret
     exact ⟨_, Z68, (Z6 HO378), Z67⟩
    ·rw [if_neg c20] at H
     have c20b0 : (a0_0 == 7 && (a0_1.toList == ([] : List UInt8) && (a0_4 == 0))) = false := Z48
     (try (have c20b1 : (a0_0 == 7 && (a0_1.toList.isEmpty && (a0_4 == 0))) = false := by have h_ : (a0_0 == 7 && (a0_1.toList == ([] : List UInt8) && (a0_4 == 0))) = false := Z48; simpa only [List.beq_nil_eq] using h_))
     (try (have c20b2 : decide (a0_0 = 7 && (a0_1.toList == ([] : List UInt8) && (a0_4 == 0))) = false := Z48))
     (try (have c20b3 : (a0_0 == 7 && (a0_1.toList == ([] : List UInt8) && (a0_4 == 0))) = false := Z48))
     (try (have c20b4 : ¬ (a0_0 = 7 && (a0_1.toList == ([] : List UInt8) && (a0_4 == 0))) := Z48))
     clear c20
     by_cases c24 : (a0_0 == 8 && (a0_1.toList == ([] : List UInt8) && (a0_4 == 0))) = true
     ·rw [if_pos c24] at H
      have c24b0 : (a0_0 == 8 && (a0_1.toList == ([] : List UInt8) && (a0_4 == 0))) = true := c24
      (try (have c24b1 : (a0_0 == 8 && (a0_1.toList.isEmpty && (a0_4 == 0))) = true := by have h_ : (a0_0 == 8 && (a0_1.toList == ([] : List UInt8) && (a0_4 == 0))) = true := c24; simpa only [List.beq_nil_eq] using h_))
      (try (have c24b2 : decide (a0_0 = 8 && (a0_1.toList == ([] : List UInt8) && (a0_4 == 0))) = true := Z49))
      (try (have c24b3 : (a0_0 == 8 && (a0_1.toList == ([] : List UInt8) && (a0_4 == 0))) = true := Z49))
      clear c24
      replace H := Option.bind_eq_some_iff.mp H
      obtain ⟨t379, A250, H⟩ := H
      replace H : (some t379) = some r := H
      have A25 := Aside0.mk A250
      clear A250
      obtain rfl := Option.some.inj H
      have hcz26_0 : wc.cell? ⟨gb364, 0, none⟩ = some (.int .i64 a0_0) := (blk_cell BK364.out 0).trans rfl
      have hcz26_1 : wc.cell? ⟨gb364, 1, none⟩ = some (.string a0_1) := (blk_cell BK364.out 1).trans rfl
      have hcz26_2 : wc.cell? ⟨gb364, 2, none⟩ = some (.int .i32 a0_2) := (blk_cell BK364.out 2).trans rfl
      have hcz26_3 : wc.cell? ⟨gb364, 3, none⟩ = some (.bool a0_3) := (blk_cell BK364.out 3).trans rfl
      have hcz26_4 : wc.cell? ⟨gb364, 4, none⟩ = some (.int .u32 a0_4) := (blk_cell BK364.out 4).trans rfl
      have hfz26_0 := blk_frozen BK364.out 0
      have hfz26_1 := blk_frozen BK364.out 1
      have hfz26_2 := blk_frozen BK364.out 2
      have hfz26_3 := blk_frozen BK364.out 3
      have hfz26_4 := blk_frozen BK364.out 4
      go_wp2_with (first | ((with_reducible refine gate_callee (f := 59) rfl ?_); refine goesL_ (some 66) rfl rfl Tryd.func59 Z0 rfl #[.int .i32 a0_2, .bool a0_3, .int .u32 6, .int .u32 5] rfl Z9 ?_; (with_reducible refine (impl_numberCells.calls a0_2 a0_3 6 5 t379 _ A25.out).mono ?_); rintro e w27 ⟨v380, rfl, ho0, hb⟩; refine ⟨_, rfl, ?_⟩; have HO381 := Z (Kd.R_lower ho0 (below_size Z67)); replace BK364 := Z (blk_below (g := gb364) (o := .cells #[.int .i64 a0_0, .string a0_1, .int .i32 a0_2, .bool a0_3, .int .u32 a0_4] 27 (0, 0)) (Z15 BK364) hb); replace HB := Z (below_step Z67 hb); (try clear hb); (try clear hb2); (try clear hk); (try clear hi); (try clear ho0)))
      go_ret
      exact ⟨_, Z68, (Z6 HO381), Z67⟩
     ·rw [if_neg c24] at H
      have c24b0 : (a0_0 == 8 && (a0_1.toList == ([] : List UInt8) && (a0_4 == 0))) = false := Z49
      (try (have c24b1 : (a0_0 == 8 && (a0_1.toList.isEmpty && (a0_4 == 0))) = false := by have h_ : (a0_0 == 8 && (a0_1.toList == ([] : List UInt8) && (a0_4 == 0))) = false := Z49; simpa only [List.beq_nil_eq] using h_))
      (try (have c24b2 : decide (a0_0 = 8 && (a0_1.toList == ([] : List UInt8) && (a0_4 == 0))) = false := Z49))
      (try (have c24b3 : (a0_0 == 8 && (a0_1.toList == ([] : List UInt8) && (a0_4 == 0))) = false := Z49))
      (try (have c24b4 : ¬ (a0_0 = 8 && (a0_1.toList == ([] : List UInt8) && (a0_4 == 0))) := Z49))
      clear c24
      by_cases c28 : (a0_0 == 9 && (!a0_3 && (a0_4 == 0))) = true
      ·rw [if_pos c28] at H
       have c28b0 : (a0_0 == 9 && (!a0_3 && (a0_4 == 0))) = true := c28
       (try (have c28b1 : decide (a0_0 = 9 && (!a0_3 && (a0_4 == 0))) = true := by simpa using c28))
       (try (have c28b2 : (a0_0 == 9 && (!a0_3 && (a0_4 == 0))) = true := by simpa using c28))
       clear c28
       replace H := Option.bind_eq_some_iff.mp H
       obtain ⟨t382, A290, H⟩ := H
       replace H : (if (t382.length : Int) = 1 then (if 0 < (t382.length : Int) then (some (([Go.bits .or .u32 (((rd t382 0) * 16) % 4294967296) 12, (a0_2) % 4294967296] : List Int))) else (none)) else (some ([] : List Int))) = some r := H
       have A29 := Aside0.mk A290
       clear A290
       by_cases c30 : (t382.length : Int) = 1
       ·rw [if_pos c30] at H
        have c30b0 : ((t382.length : Int) == 1) = true := beq_iff_eq.mpr c30
        have c30b1 : ((t382.length : Int) != 1) = false := bne_eq_false_iff_eq.mpr c30
        clear c30
        by_cases c31 : 0 < (t382.length : Int)
        ·rw [if_pos c31] at H
         have c31b0 : decide (0 < (t382.length : Int)) = true := decide_eq_true c31
         have c31b1 : decide (0 < t382.length) = true := decide_eq_true (by omega)
         clear c31
         obtain ⟨y386, hy386⟩ : ∃ y_ : List Int, y_ = (([Go.bits .or .u32 (((rd t382 0) * 16) % 4294967296) 12, (a0_2) % 4294967296] : List Int)) := ⟨_, rfl⟩
         replace H : (some y386) = some r := by first | (rw [hy386]; with_reducible exact H) | (have H2_ := (Option.bind_some _ _).symm.trans H; rw [hy386]; with_reducible exact H2_) | (have H2_ := (Option.bind_some _ _).symm.trans H; with_reducible exact H2_) | with_reducible exact H | (rw [hy386]; exact H) | exact H
         have Ny386 := Aside0.mk hy386
         clear hy386
         obtain rfl := Option.some.inj H
         have hcz32_0 : wc.cell? ⟨gb364, 0, none⟩ = some (.int .i64 a0_0) := (blk_cell BK364.out 0).trans rfl
         have hcz32_1 : wc.cell? ⟨gb364, 1, none⟩ = some (.string a0_1) := (blk_cell BK364.out 1).trans rfl
         have hcz32_2 : wc.cell? ⟨gb364, 2, none⟩ = some (.int .i32 a0_2) := (blk_cell BK364.out 2).trans rfl
         have hcz32_3 : wc.cell? ⟨gb364, 3, none⟩ = some (.bool a0_3) := (blk_cell BK364.out 3).trans rfl
         have hcz32_4 : wc.cell? ⟨gb364, 4, none⟩ = some (.int .u32 a0_4) := (blk_cell BK364.out 4).trans rfl
         have hfz32_0 := blk_frozen BK364.out 0
         have hfz32_1 := blk_frozen BK364.out 1
         have hfz32_2 := blk_frozen BK364.out 2
         have hfz32_3 := blk_frozen BK364.out 3
         have hfz32_4 := blk_frozen BK364.out 4
         try go_wp2_with (first | ((with_reducible refine gate_callee (f := 58) rfl ?_); refine goesL_ (some 77) rfl rfl Tryd.func58 Z0 rfl #[.string a0_1] rfl Z9 ?_; (with_reducible refine (impl_Pack.calls kj2 a0_1 t382 _ A29.out).mono ?_); rintro e w33 ⟨v383, rfl, ho0, hb⟩; refine ⟨_, rfl, ?_⟩; have HO384 := Z (Kd.R_lower ho0 (below_size Z67)); replace BK364 := Z (blk_below (g := gb364) (o := .cells #[.int .i64 a0_0, .string a0_1, .int .i32 a0_2, .bool a0_3, .int .u32 a0_4] 27 (0, 0)) (Z15 BK364) hb); replace HB := Z (below_step Z67 hb); (try clear hb); (try clear hb2); (try clear hk); (try clear hi); (try clear ho0); obtain ⟨Ao34, co34, eo34⟩ := Kd.R_slice HO384.out; subst eo34))
         have n0_ := Z (Kd.R_drew HO384.out)
         have n1_ := Z (blk_drew BK364.out)
         have n2_ := Z (below_drew1 HB.out)
         clear HO384
         clear BK364
         clear HB
         have HO384 := n0_
         have BK364 := n1_
         have HB := n2_
         clear n0_ n1_ n2_
         have p385 : 0 ≤ (0 : Int) := (by omega)
         have q385 : 0 < (t382.length : Int) := of_decide_eq_true Z10
         obtain ⟨ad385, e385, hx385_0⟩ := Kd.at_int (Kd.R_reads' HO384.out).2.2 0 p385 q385
         cases e385
         have qi385 : (0 < t382.length) = True := eq_true (by omega)
         (try rw [show ((0 : Int)).toNat = 0 from rfl] at hx385_0)
         (try rw [Addr.add_zero'] at hx385_0)
         replace p385 := eq_true p385
         replace q385 := eq_true q385
         refine start_ (n := 10) (S := fun w' => w'.cell? ⟨gb364, 0, none⟩ = some (.int .i64 a0_0) ∧ w'.cell? ⟨gb364, 1, none⟩ = some (.string a0_1) ∧ w'.cell? ⟨gb364, 2, none⟩ = some (.int .i32 a0_2) ∧ w'.cell? ⟨gb364, 3, none⟩ = some (.bool a0_3) ∧ w'.cell? ⟨gb364, 4, none⟩ = some (.int .u32 a0_4) ∧ w'.cell? ad385 = some (.int .u32 (rd t382 0))) (ds := []) #[false, false, false, false, false, false, false, false, false, false] Z0 rfl rfl ⟨(blk_cell BK364.out 0).trans rfl, (blk_cell BK364.out 1).trans rfl, (blk_cell BK364.out 2).trans rfl, (blk_cell BK364.out 3).trans rfl, (blk_cell BK364.out 4).trans rfl, hx385_0⟩ (fun hHeld => ?_); refine with_tabW impl_CellsOf.tab18 impl_CellsOf.bits18 (fun HT_ HW_ => ?_)
         generalize w33.drew = w35 at HO384 BK364 HB hx385_0 hHeld ⊢
         refine pure_ (i := 0) (N := some 81) (v := ?_) (a' := ?_) #[true, false, false, false, false, false, false, false, false, false] rfl rfl (any_of HT_.out Z0) (fun _ _ _ h => h) (Or.inl ⟨by rfl, ?_⟩) ?_ ?_
         rotate_left
         ·intro w'
          go_simp
          with_reducible rfl
         rotate_left
         ·simp only [Act.put, List.setIfInBounds_toArray, List.set_cons_zero, List.set_cons_succ, i64_w, i32_w]
          rfl
         refine pure_ (i := 1) (N := some 82) (v := ?_) (a' := ?_) #[true, true, false, false, false, false, false, false, false, false] rfl rfl (any_of HT_.out Z0) (fun _ _ _ h => h) (Or.inl ⟨by rfl, ?_⟩) ?_ ?_
         rotate_left
         ·intro w'
          go_simp
          with_reducible rfl
         rotate_left
         ·simp only [Act.put, List.setIfInBounds_toArray, List.set_cons_zero, List.set_cons_succ, i64_w, i32_w]
          rfl
         refine pure_ (i := 5) (N := some 86) (v := ?_) (a' := ?_) #[true, true, false, false, false, true, false, false, false, false] rfl rfl (any_of HT_.out Z0) (fun _ _ _ h => h) (Or.inl ⟨by rfl, ?_⟩) ?_ ?_
         rotate_left
         ·intro w'
          go_simp
          with_reducible rfl
         rotate_left
         ·simp only [Act.put, List.setIfInBounds_toArray, List.set_cons_zero, List.set_cons_succ, i64_w, i32_w]
          rfl
         refine take_ (i := 2) (N := some 83) (v := ?_) (a' := ?_) #[true, true, true, false, false, true, false, false, false, false] rfl rfl (take_ofW HT_.out HW_.out Z0) (fun _ _ _ h => h) (Or.inl ⟨by rfl, ?_⟩) hHeld ?_ ?_
         rotate_left
         ·rintro w' ⟨s0, s1, s2, s3, s4, s5⟩
          go_simp
          with_reducible rfl
         rotate_left
         ·simp only [Act.put, List.setIfInBounds_toArray, List.set_cons_zero, List.set_cons_succ, i64_w, i32_w]
          rfl
         refine pure_ (i := 3) (N := some 84) (v := ?_) (a' := ?_) #[true, true, true, true, false, true, false, false, false, false] rfl rfl (any_of HT_.out Z0) (fun _ _ _ h => h) (Or.inl ⟨by rfl, ?_⟩) ?_ ?_
         rotate_left
         ·intro w'
          go_simp
          with_reducible rfl
         rotate_left
         ·simp only [Act.put, List.setIfInBounds_toArray, List.set_cons_zero, List.set_cons_succ, i64_w, i32_w]
          rfl
         refine pure_ (i := 4) (N := some 85) (v := ?_) (a' := ?_) #[true, true, true, true, true, true, false, false, false, false] rfl rfl (any_of HT_.out Z0) (fun _ _ _ h => h) (Or.inl ⟨by rfl, ?_⟩) ?_ ?_
         rotate_left
         ·intro w'
          go_simp
          with_reducible rfl
         rotate_left
         ·simp only [Act.put, List.setIfInBounds_toArray, List.set_cons_zero, List.set_cons_succ, i64_w, i32_w]
          rfl
         refine take_ (i := 6) (N := some 87) (v := ?_) (a' := ?_) #[true, true, true, true, true, true, true, false, false, false] rfl rfl (take_ofW HT_.out HW_.out Z0) (fun _ _ _ h => h) (Or.inl ⟨by rfl, ?_⟩) hHeld ?_ ?_
         rotate_left
         ·rintro w' ⟨s0, s1, s2, s3, s4, s5⟩
          go_simp
          with_reducible rfl
         rotate_left
         ·simp only [Act.put, List.setIfInBounds_toArray, List.set_cons_zero, List.set_cons_succ, i64_w, i32_w]
          rfl
         refine pure_ (i := 7) (N := some 88) (v := ?_) (a' := ?_) #[true, true, true, true, true, true, true, true, false, false] rfl rfl (any_of HT_.out Z0) (fun _ _ _ h => h) (Or.inl ⟨by rfl, ?_⟩) ?_ ?_
         rotate_left
         ·intro w'
          go_simp
          with_reducible rfl
         rotate_left
         ·simp only [Act.put, List.setIfInBounds_toArray, List.set_cons_zero, List.set_cons_succ, i64_w, i32_w]
          rfl
         refine one_ (i := 8) (N := some 89) #[true, true, true, true, true, true, true, true, true, false] rfl rfl (one_of HT_.out Z0) (by decide) (fun K hK => ?_)
         refine Kd.R_lit_step (Kd.int .u32) _ 22 ?hg (N := 89) ?hd (xs := ([Go.bits .or .u32 (((rd t382 0) * 16) % 4294967296) 12, (a0_2) % 4294967296] : List Int)) (inner := [.int .u32 (Go.bits .or .u32 (((rd t382 0) * 16) % 4294967296) 12), .int .u32 ((a0_2) % 4294967296)]) (ok := fun _ => True) (okp := fun _ => True) ?hr ?hp (fun _ hk => hk) trivial (Below.refl _ _) (Nat.le_refl _) (by simp) ?_; (case hd => rfl); (case hg => rfl); (case hr => exact Z3); (case hp => exact (Reps.one (show Kd.M (Kd.int .u32) _ _ _ (Go.bits .or .u32 (((rd t382 0) * 16) % 4294967296) 12) [.int .u32 (Go.bits .or .u32 (((rd t382 0) * 16) % 4294967296) 12)] from rfl) (Reps.one (show Kd.M (Kd.int .u32) _ _ _ ((a0_2) % 4294967296) [.int .u32 ((a0_2) % 4294967296)] from rfl) (Reps.none _ _))))
         intro v387 w36 ho37 hb hg_ hnew_
         have HS5_ := (hb.cell (World.block_lt_of_cell? _ _ (hHeld.2.2.2.2.2))).trans (hHeld.2.2.2.2.2)
         clear hg_ hnew_
         (first | rw [← Ny386.out] at ho37 | (simp only [Int.reduceToNat] at ho37; rw [← Ny386.out] at ho37))
         have n0_ := Z (Kd.R_elder' (Z6 HO384) (Kd.R_base ho37) hb)
         have n1_ := Z (Kd.R_lower (Kd.R_new' ho37 (Kd.R_lt (Z6 HO384))) (below_size Z67))
         have n2_ := Z (blk_below (g := gb364) (o := .cells #[.int .i64 a0_0, .string a0_1, .int .i32 a0_2, .bool a0_3, .int .u32 a0_4] 27 (0, 0)) (Z15 BK364) hb)
         have n3_ := Z (below_step Z67 hb)
         clear HO384
         clear BK364
         clear HB
         have HO384 := n0_
         have HO388 := n1_
         have BK364 := n2_
         have HB := n3_
         clear n0_ n1_ n2_ n3_
         clear hb ho37
         refine hK.out _ _ ⟨(blk_cell BK364.out 0).trans rfl, (blk_cell BK364.out 1).trans rfl, (blk_cell BK364.out 2).trans rfl, (blk_cell BK364.out 3).trans rfl, (blk_cell BK364.out 4).trans rfl, HS5_⟩ (fun hHeld => ?_)
         clear hK K
         refine norm_ (a' := ?_) ?_ ?_
         rotate_left
         ·show Act.put _ (some 89) _ = _
          simp only [Act.put, List.setIfInBounds_toArray, List.set_cons_zero, List.set_cons_succ, i64_w, i32_w]
          rfl
         refine pure_ (i := 9) (N := some 2) (v := ?_) (a' := ?_) #[true, true, true, true, true, true, true, true, true, true] rfl rfl (any_of HT_.out Z0) (fun _ _ _ h => h) (Or.inl ⟨by rfl, ?_⟩) ?_ ?_
         rotate_left
         ·intro w'
          go_simp
          with_reducible rfl
         rotate_left
         ·simp only [Act.put, List.setIfInBounds_toArray, List.set_cons_zero, List.set_cons_succ, i64_w, i32_w]
          rfl
         refine done_ (done_of HT_.out Z0) ?_
         try go_wp2
         go_ret
         exact ⟨_, Z68, (Z16 HO388), Z67⟩
        ·rw [if_neg c31] at H
         exact absurd H (by simp)
       ·rw [if_neg c30] at H
        have c30b0 : ((t382.length : Int) == 1) = false := beq_eq_false_iff_ne.mpr c30
        have c30b1 : ((t382.length : Int) != 1) = true := bne_iff_ne.mpr c30
        obtain rfl := Option.some.inj H
        have hcz38_0 : wc.cell? ⟨gb364, 0, none⟩ = some (.int .i64 a0_0) := (blk_cell BK364.out 0).trans rfl
        have hcz38_1 : wc.cell? ⟨gb364, 1, none⟩ = some (.string a0_1) := (blk_cell BK364.out 1).trans rfl
        have hcz38_2 : wc.cell? ⟨gb364, 2, none⟩ = some (.int .i32 a0_2) := (blk_cell BK364.out 2).trans rfl
        have hcz38_3 : wc.cell? ⟨gb364, 3, none⟩ = some (.bool a0_3) := (blk_cell BK364.out 3).trans rfl
        have hcz38_4 : wc.cell? ⟨gb364, 4, none⟩ = some (.int .u32 a0_4) := (blk_cell BK364.out 4).trans rfl
        have hfz38_0 := blk_frozen BK364.out 0
        have hfz38_1 := blk_frozen BK364.out 1
        have hfz38_2 := blk_frozen BK364.out 2
        have hfz38_3 := blk_frozen BK364.out 3
        have hfz38_4 := blk_frozen BK364.out 4
        go_wp2_with (first | ((with_reducible refine gate_callee (f := 58) rfl ?_); refine goesL_ (some 77) rfl rfl Tryd.func58 Z0 rfl #[.string a0_1] rfl Z9 ?_; (with_reducible refine (impl_Pack.calls kj2 a0_1 t382 _ A29.out).mono ?_); rintro e w39 ⟨v383, rfl, ho0, hb⟩; refine ⟨_, rfl, ?_⟩; have HO384 := Z (Kd.R_lower ho0 (below_size Z67)); replace BK364 := Z (blk_below (g := gb364) (o := .cells #[.int .i64 a0_0, .string a0_1, .int .i32 a0_2, .bool a0_3, .int .u32 a0_4] 27 (0, 0)) (Z15 BK364) hb); replace HB := Z (below_step Z67 hb); (try clear hb); (try clear hb2); (try clear hk); (try clear hi); (try clear ho0); obtain ⟨Ao40, co40, eo40⟩ := Kd.R_slice HO384.out; subst eo40))
        go_ret
        exact ⟨_, Z68, Z50, Z67⟩
      ·rw [if_neg c28] at H
       have c28b0 : (a0_0 == 9 && (!a0_3 && (a0_4 == 0))) = false := by simpa using c28
       (try (have c28b1 : decide (a0_0 = 9 && (!a0_3 && (a0_4 == 0))) = false := by simpa using c28))
       (try (have c28b2 : (a0_0 == 9 && (!a0_3 && (a0_4 == 0))) = false := by simpa using c28))
       (try (have c28b3 : ¬ (a0_0 = 9 && (!a0_3 && (a0_4 == 0))) := by simpa using c28))
       clear c28
       by_cases c41 : (a0_0 == 0 && (a0_1.toList == ([] : List UInt8) && (a0_2 == 0 && (!a0_3)))) = true
       ·rw [if_pos c41] at H
        have c41b0 : (a0_0 == 0 && (a0_1.toList == ([] : List UInt8) && (a0_2 == 0 && (!a0_3)))) = true := c41
        (try (have c41b1 : (a0_0 == 0 && (a0_1.toList.isEmpty && (a0_2 == 0 && (!a0_3)))) = true := by have h_ : (a0_0 == 0 && (a0_1.toList == ([] : List UInt8) && (a0_2 == 0 && (!a0_3)))) = true := c41; simpa only [List.beq_nil_eq] using h_))
        (try (have c41b2 : decide (a0_0 = 0 && (a0_1.toList == ([] : List UInt8) && (a0_2 == 0 && (!a0_3)))) = true := Z51))
        (try (have c41b3 : (a0_0 == 0 && (a0_1.toList == ([] : List UInt8) && (a0_2 == 0 && (!a0_3)))) = true := Z51))
        clear c41
        obtain ⟨y389, hy389⟩ : ∃ y_ : List Int, y_ = (([a0_4] : List Int)) := ⟨_, rfl⟩
        replace H : (some y389) = some r := by first | (rw [hy389]; with_reducible exact H) | (have H2_ := (Option.bind_some _ _).symm.trans H; rw [hy389]; with_reducible exact H2_) | (have H2_ := (Option.bind_some _ _).symm.trans H; with_reducible exact H2_) | with_reducible exact H | (rw [hy389]; exact H) | exact H
        have Ny389 := Aside0.mk hy389
        clear hy389
        obtain rfl := Option.some.inj H
        have hcz42_0 : wc.cell? ⟨gb364, 0, none⟩ = some (.int .i64 a0_0) := (blk_cell BK364.out 0).trans rfl
        have hcz42_1 : wc.cell? ⟨gb364, 1, none⟩ = some (.string a0_1) := (blk_cell BK364.out 1).trans rfl
        have hcz42_2 : wc.cell? ⟨gb364, 2, none⟩ = some (.int .i32 a0_2) := (blk_cell BK364.out 2).trans rfl
        have hcz42_3 : wc.cell? ⟨gb364, 3, none⟩ = some (.bool a0_3) := (blk_cell BK364.out 3).trans rfl
        have hcz42_4 : wc.cell? ⟨gb364, 4, none⟩ = some (.int .u32 a0_4) := (blk_cell BK364.out 4).trans rfl
        have hfz42_0 := blk_frozen BK364.out 0
        have hfz42_1 := blk_frozen BK364.out 1
        have hfz42_2 := blk_frozen BK364.out 2
        have hfz42_3 := blk_frozen BK364.out 3
        have hfz42_4 := blk_frozen BK364.out 4
        go_wp2_with (first | ((with_reducible refine gate_dst (N := 98) rfl ?_); refine Kd.R_lit (Kd.int .u32) _ 22 (by rfl) (N := 98) (by rfl) (xs := ([a0_4] : List Int)) (inner := [.int .u32 a0_4]) (ok := fun _ => True) (okp := fun _ => True) Z3 (Reps.one (show Kd.M (Kd.int .u32) _ _ _ a0_4 [.int .u32 a0_4] from rfl) (Reps.none _ _)) (fun _ hk => hk) trivial (Below.refl _ _) (Nat.le_refl _) (by simp) ?_; intro v390 w43 ho44 hb hg_ hnew_; clear hg_ hnew_; (first | rw [← Ny389.out] at ho44 | (simp only [Int.reduceToNat] at ho44; rw [← Ny389.out] at ho44)); have HO391 := Z (Kd.R_lower ho44 (below_size Z67)); replace BK364 := Z (blk_below (g := gb364) (o := .cells #[.int .i64 a0_0, .string a0_1, .int .i32 a0_2, .bool a0_3, .int .u32 a0_4] 27 (0, 0)) (Z15 BK364) hb); replace HB := Z (below_step Z67 hb); clear hb ho44))
        go_ret
        exact ⟨_, Z68, (Z6 HO391), Z67⟩
       ·rw [if_neg c41] at H
        have c41b0 : (a0_0 == 0 && (a0_1.toList == ([] : List UInt8) && (a0_2 == 0 && (!a0_3)))) = false := Z51
        (try (have c41b1 : (a0_0 == 0 && (a0_1.toList.isEmpty && (a0_2 == 0 && (!a0_3)))) = false := by have h_ : (a0_0 == 0 && (a0_1.toList == ([] : List UInt8) && (a0_2 == 0 && (!a0_3)))) = false := Z51; simpa only [List.beq_nil_eq] using h_))
        (try (have c41b2 : decide (a0_0 = 0 && (a0_1.toList == ([] : List UInt8) && (a0_2 == 0 && (!a0_3)))) = false := Z51))
        (try (have c41b3 : (a0_0 == 0 && (a0_1.toList == ([] : List UInt8) && (a0_2 == 0 && (!a0_3)))) = false := Z51))
        (try (have c41b4 : ¬ (a0_0 = 0 && (a0_1.toList == ([] : List UInt8) && (a0_2 == 0 && (!a0_3)))) := Z51))
        clear c41
        obtain rfl := Option.some.inj H
        have hcz45_0 : wc.cell? ⟨gb364, 0, none⟩ = some (.int .i64 a0_0) := (blk_cell BK364.out 0).trans rfl
        have hcz45_1 : wc.cell? ⟨gb364, 1, none⟩ = some (.string a0_1) := (blk_cell BK364.out 1).trans rfl
        have hcz45_2 : wc.cell? ⟨gb364, 2, none⟩ = some (.int .i32 a0_2) := (blk_cell BK364.out 2).trans rfl
        have hcz45_3 : wc.cell? ⟨gb364, 3, none⟩ = some (.bool a0_3) := (blk_cell BK364.out 3).trans rfl
        have hcz45_4 : wc.cell? ⟨gb364, 4, none⟩ = some (.int .u32 a0_4) := (blk_cell BK364.out 4).trans rfl
        have hfz45_0 := blk_frozen BK364.out 0
        have hfz45_1 := blk_frozen BK364.out 1
        have hfz45_2 := blk_frozen BK364.out 2
        have hfz45_3 := blk_frozen BK364.out 3
        have hfz45_4 := blk_frozen BK364.out 4
        go_wp2
        go_ret
        exact ⟨_, Z68, Z50, Z67⟩

/-! ### impl_ItemOk: function 24 -/
def impl_ItemOk.f (k : Nat) (a0_0 : Int) (a0_1 : ByteArray) (a0_2 : Int) (a0_3 : Bool) (a0_4 : Int) : Option (Bool) := (impl_CellsOf.f k a0_0 a0_1 a0_2 a0_3 a0_4).bind fun t393 => (some (decide ((t393.length : Int) > 0)))
theorem impl_ItemOk.mono : ∀ a0 a1 a2 a3 a4 k, LeO (impl_ItemOk.f k a0 a1 a2 a3 a4) (impl_ItemOk.f (k + 1) a0 a1 a2 a3 a4) := by
 intro a0 a1 a2 a3 a4 k
 unfold impl_ItemOk.f
 repeat' first
   | (with_reducible exact impl_CellsOf.mono _ _ _ _ _ _)
   | (with_reducible exact LeO.refl _)
   | (with_reducible exact LeO.none _)
   | (with_reducible refine LeO.ite ?_ ?_)
   | (with_reducible refine LeO.bind ?_ (fun _ => ?_))
   | exact impl_CellsOf.mono _ _ _ _ _ _
   | exact LeO.none _
   | refine LeO.ite ?_ ?_
   | refine LeO.bind ?_ (fun _ => ?_)
set_option maxHeartbeats 8000000 in
set_option maxRecDepth 100000 in
theorem impl_ItemOk.calls (k : Nat) (a0_0 : Int) (a0_1 : ByteArray) (a0_2 : Int) (a0_3 : Bool) (a0_4 : Int) (r : Bool) (w : World) (h : impl_ItemOk.f k a0_0 a0_1 a0_2 a0_3 a0_4 = some r) :
  Calls Tryd.prog 24 #[.agg #[.int .i64 a0_0, .string a0_1, .int .i32 a0_2, .bool a0_3, .int .u32 a0_4]] w fun e w' => e = .returned (.bool r) ∧ Below w.heap.size w w' := by
 have hu27 := Tryd.underlying27
 have HB := Z (Below.refl w.heap.size w)
 have H : ((impl_CellsOf.f k a0_0 a0_1 a0_2 a0_3 a0_4).bind fun t393 => (some (decide ((t393.length : Int) > 0)))) = some r := h
 clear h
 replace H := Option.bind_eq_some_iff.mp H
 obtain ⟨t393, A20, H⟩ := H
 replace H : (some (decide ((t393.length : Int) > 0))) = some r := H
 have A2 := Aside0.mk A20
 clear A20
 obtain rfl := Option.some.inj H
 go_enter Tryd.func24, Tryd.ntmps24
 go_wp2_with (first | ((with_reducible refine gate_dst (N := 1) rfl ?_); refine box_event (by rfl) (N := 1) (by rfl) (cs := #[.int .i64 a0_0, .string a0_1, .int .i32 a0_2, .bool a0_3, .int .u32 a0_4]) (t := 27) Z3 ?_; intro gb392 hg w3 hbox hb; have BK392 := Z (hbox); have GW392 := Z ((Z79 : w.heap.size ≤ gb392)); have GE392 := Z ((Z79 : w.heap.size ≤ gb392)); replace HB := Z (below_step Z67 hb); clear hb hbox hg; have hcz4_0 : w3.cell? ⟨gb392, 0, none⟩ = some (.int .i64 a0_0) := (blk_cell BK392.out 0).trans rfl; have hcz4_1 : w3.cell? ⟨gb392, 1, none⟩ = some (.string a0_1) := (blk_cell BK392.out 1).trans rfl; have hcz4_2 : w3.cell? ⟨gb392, 2, none⟩ = some (.int .i32 a0_2) := (blk_cell BK392.out 2).trans rfl; have hcz4_3 : w3.cell? ⟨gb392, 3, none⟩ = some (.bool a0_3) := (blk_cell BK392.out 3).trans rfl; have hcz4_4 : w3.cell? ⟨gb392, 4, none⟩ = some (.int .u32 a0_4) := (blk_cell BK392.out 4).trans rfl; have hfz4_0 := blk_frozen BK392.out 0; have hfz4_1 := blk_frozen BK392.out 1; have hfz4_2 := blk_frozen BK392.out 2; have hfz4_3 := blk_frozen BK392.out 3; have hfz4_4 := blk_frozen BK392.out 4) | ((with_reducible refine gate_callee (f := 38) rfl ?_); refine goesL_ (some 4) rfl rfl Tryd.func38 Z0 rfl #[.agg #[.int .i64 a0_0, .string a0_1, .int .i32 a0_2, .bool a0_3, .int .u32 a0_4]] rfl Z9 ?_; (with_reducible refine (impl_CellsOf.calls k a0_0 a0_1 a0_2 a0_3 a0_4 t393 _ A2.out).mono ?_); rintro e w5 ⟨v394, rfl, ho0, hb⟩; refine ⟨_, rfl, ?_⟩; have HO395 := Z (Kd.R_lower ho0 (below_size Z67)); replace BK392 := Z (blk_below (g := gb392) (o := .cells #[.int .i64 a0_0, .string a0_1, .int .i32 a0_2, .bool a0_3, .int .u32 a0_4] 27 (0, 0)) (Z15 BK392) hb); replace HB := Z (below_step Z67 hb); (try clear hb); (try clear hb2); (try clear hk); (try clear hi); (try clear ho0); obtain ⟨Ao6, co6, eo6⟩ := Kd.R_slice HO395.out; subst eo6))
 go_ret
 exact ⟨Z68, Z67⟩

/-! ### impl_HexText: function 25 (by hand: by the library's walk at base 16) -/
def impl_HexText.f (a0 : Int) : Option (ByteArray) := if 0 ≤ a0 ∧ a0 < 4294967296 then some ⟨(Hex.hexL a0.toNat).toArray⟩ else none
theorem impl_HexText.calls (a0 : Int) (r : ByteArray) (w : World) (h : impl_HexText.f a0 = some r) (HT0 : Aside0 (Itoa.Tab w)) :
  Calls Tryd.prog 25 #[.int .u32 a0] w fun e w' => e = .returned (.string r) ∧ Below w.heap.size w w' := by
 unfold impl_HexText.f at h
 split at h
 case isFalse => cases h
 rename_i hb
 obtain rfl := Option.some.inj h
 obtain ⟨u, rfl⟩ := Int.eq_ofNat_of_zero_le hb.1
 exact Hex.hexText u (by omega) w HT0.out.2

/-! ### impl_DecText: function 40 (by hand: by the library's contract of strconv.Itoa) -/
def impl_DecText.f (a0 : Int) : Option (ByteArray) := if -9223372036854775808 ≤ a0 ∧ a0 ≤ 9223372036854775807 then some ⟨(Lib.itoa a0).toArray⟩ else none
set_option maxHeartbeats 1000000 in
set_option maxRecDepth 100000 in
theorem impl_DecText.calls (a0 : Int) (r : ByteArray) (w : World) (h : impl_DecText.f a0 = some r) (HT0 : Aside0 (Itoa.Tab w)) :
  Calls Tryd.prog 40 #[.int .i64 a0] w fun e w' => e = .returned (.string r) ∧ Below w.heap.size w w' := by
 unfold impl_DecText.f at h
 split at h
 case isFalse => cases h
 rename_i hb
 exact Itoa.decText a0 r (Option.some.inj h) hb.1 hb.2 w HT0.out

/-! ### impl_digits: function 26 -/
def impl_digits.f (a0 : Int) (a1 : Bool) : Option (ByteArray) := if a1 = true then ((impl_HexText.f ((a0) % 4294967296)).bind fun t396 => (if 1 + t396.size ≤ 9223372036854775807 then (some ((⟨#[36]⟩ : ByteArray) ++ t396)) else (none))) else ((impl_DecText.f (wrap64 (a0))).bind fun t397 => (if 1 + t397.size ≤ 9223372036854775807 then (some ((⟨#[35]⟩ : ByteArray) ++ t397)) else (none)))
set_option maxHeartbeats 8000000 in
set_option maxRecDepth 100000 in
theorem impl_digits.calls (a0 : Int) (a1 : Bool) (r : ByteArray) (w : World) (h : impl_digits.f a0 a1 = some r) (HT0 : Aside0 (Itoa.Tab w)) :
  Calls Tryd.prog 26 #[.int .i32 a0, .bool a1] w fun e w' => e = .returned (.string r) ∧ Below w.heap.size w w' := by
 have HB := Z (Below.refl w.heap.size w)
 have H : (if a1 = true then ((impl_HexText.f ((a0) % 4294967296)).bind fun t396 => (if 1 + t396.size ≤ 9223372036854775807 then (some ((⟨#[36]⟩ : ByteArray) ++ t396)) else (none))) else ((impl_DecText.f (wrap64 (a0))).bind fun t397 => (if 1 + t397.size ≤ 9223372036854775807 then (some ((⟨#[35]⟩ : ByteArray) ++ t397)) else (none)))) = some r := h
 clear h
 by_cases c3 : a1 = true
 ·subst c3
  have H1 : ((impl_HexText.f ((a0) % 4294967296)).bind fun t396 => (if 1 + t396.size ≤ 9223372036854775807 then (some ((⟨#[36]⟩ : ByteArray) ++ t396)) else (none))) = some r := Z2
  clear H
  have H := H1
  clear H1
  replace H := Option.bind_eq_some_iff.mp H
  obtain ⟨t396, A40, H⟩ := H
  replace H : (if 1 + t396.size ≤ 9223372036854775807 then (some ((⟨#[36]⟩ : ByteArray) ++ t396)) else (none)) = some r := H
  have A4 := Aside0.mk A40
  clear A40
  by_cases c5 : 1 + t396.size ≤ 9223372036854775807
  ·rw [if_pos c5] at H
   have c5b0 := eq_true c5
   have c5b1 : decide (1 + t396.size ≤ 9223372036854775807) = true := decide_eq_true c5
   try have c5b2 : (9223372036854775807 < 1 + t396.size) = False := eq_false (Nat.not_lt.2 c5)
   obtain rfl := Option.some.inj H
   go_enter Tryd.func26, Tryd.ntmps26
   go_wp2_with (first | ((with_reducible refine gate_callee (f := 25) rfl ?_); refine goesL_ (some 8) rfl rfl Tryd.func25 Z0 rfl #[.int .u32 ((a0) % 4294967296)] rfl Z9 ?_; (with_reducible refine (impl_HexText.calls ((a0) % 4294967296) t396 _ A4.out ⟨Itoa.tab_at HT0.out Z73⟩).mono ?_); rintro e w6 ⟨rfl, hb⟩; refine ⟨_, rfl, ?_⟩; replace HB := Z (below_step Z67 hb); (try clear hb); (try clear hb2); (try clear hk); (try clear hi)))
   go_ret
   exact ⟨Z68, Z67⟩
  ·rw [if_neg c5] at H
   exact absurd H (by simp)
 ·replace c3 := Bool.eq_false_iff.mpr c3
  subst c3
  have H1 : ((impl_DecText.f (wrap64 (a0))).bind fun t397 => (if 1 + t397.size ≤ 9223372036854775807 then (some ((⟨#[35]⟩ : ByteArray) ++ t397)) else (none))) = some r := by rw [if_neg (show ¬ (false = true) by decide)] at H; exact H
  clear H
  have H := H1
  clear H1
  replace H := Option.bind_eq_some_iff.mp H
  obtain ⟨t397, A70, H⟩ := H
  replace H : (if 1 + t397.size ≤ 9223372036854775807 then (some ((⟨#[35]⟩ : ByteArray) ++ t397)) else (none)) = some r := H
  have A7 := Aside0.mk A70
  clear A70
  by_cases c8 : 1 + t397.size ≤ 9223372036854775807
  ·rw [if_pos c8] at H
   have c8b0 := eq_true c8
   have c8b1 : decide (1 + t397.size ≤ 9223372036854775807) = true := decide_eq_true c8
   try have c8b2 : (9223372036854775807 < 1 + t397.size) = False := eq_false (Nat.not_lt.2 c8)
   obtain rfl := Option.some.inj H
   go_enter Tryd.func26, Tryd.ntmps26
   go_wp2_with (first | ((with_reducible refine gate_callee (f := 40) rfl ?_); refine goesL_ (some 12) rfl rfl Tryd.func40 Z0 rfl #[.int .i64 (wrap64 (a0))] rfl Z9 ?_; (with_reducible refine (impl_DecText.calls (wrap64 (a0)) t397 _ A7.out ⟨Itoa.tab_at HT0.out Z73⟩).mono ?_); rintro e w9 ⟨rfl, hb⟩; refine ⟨_, rfl, ?_⟩; replace HB := Z (below_step Z67 hb); (try clear hb); (try clear hb2); (try clear hk); (try clear hi)))
   go_ret
   exact ⟨Z68, Z67⟩
  ·rw [if_neg c8] at H
   exact absurd H (by simp)

/-! ### impl_mark: function 27 -/
def impl_mark.f (a0 : Int) : Option (ByteArray) := if a0 = 1 then (some (⟨#[126]⟩ : ByteArray)) else (if a0 = 2 then (some (⟨#[58]⟩ : ByteArray)) else (if a0 = 3 then (some (⟨#[61]⟩ : ByteArray)) else (if a0 = 4 then (some (⟨#[34]⟩ : ByteArray)) else (if a0 = 5 then (some (⟨#[94]⟩ : ByteArray)) else (if a0 = 6 then (some (⟨#[95]⟩ : ByteArray)) else (some (⟨#[]⟩ : ByteArray)))))))
set_option maxHeartbeats 8000000 in
set_option maxRecDepth 100000 in
theorem impl_mark.calls (a0 : Int) (r : ByteArray) (w : World) (h : impl_mark.f a0 = some r) :
  Calls Tryd.prog 27 #[.int .i64 a0] w fun e w' => e = .returned (.string r) ∧ Drawn0 w w' := by
 have H : (if a0 = 1 then (some (⟨#[126]⟩ : ByteArray)) else (if a0 = 2 then (some (⟨#[58]⟩ : ByteArray)) else (if a0 = 3 then (some (⟨#[61]⟩ : ByteArray)) else (if a0 = 4 then (some (⟨#[34]⟩ : ByteArray)) else (if a0 = 5 then (some (⟨#[94]⟩ : ByteArray)) else (if a0 = 6 then (some (⟨#[95]⟩ : ByteArray)) else (some (⟨#[]⟩ : ByteArray)))))))) = some r := h
 clear h
 by_cases c2 : a0 = 1
 ·rw [if_pos c2] at H
  have c2b0 : (a0 == 1) = true := beq_iff_eq.mpr c2
  have c2b1 : (a0 != 1) = false := bne_eq_false_iff_eq.mpr c2
  clear c2
  obtain rfl := Option.some.inj H
  go_enter Tryd.func27, Tryd.ntmps27
  go_wp2
  go_ret
  exact ⟨Z7, Z8⟩
 ·rw [if_neg c2] at H
  have c2b0 : (a0 == 1) = false := beq_eq_false_iff_ne.mpr c2
  have c2b1 : (a0 != 1) = true := bne_iff_ne.mpr c2
  by_cases c3 : a0 = 2
  ·rw [if_pos c3] at H
   have c3b0 : (a0 == 2) = true := beq_iff_eq.mpr c3
   have c3b1 : (a0 != 2) = false := bne_eq_false_iff_eq.mpr c3
   clear c3
   obtain rfl := Option.some.inj H
   go_enter Tryd.func27, Tryd.ntmps27
   go_wp2
   go_ret
   exact ⟨Z7, Z8⟩
  ·rw [if_neg c3] at H
   have c3b0 : (a0 == 2) = false := beq_eq_false_iff_ne.mpr c3
   have c3b1 : (a0 != 2) = true := bne_iff_ne.mpr c3
   by_cases c4 : a0 = 3
   ·rw [if_pos c4] at H
    have c4b0 : (a0 == 3) = true := beq_iff_eq.mpr c4
    have c4b1 : (a0 != 3) = false := bne_eq_false_iff_eq.mpr c4
    clear c4
    obtain rfl := Option.some.inj H
    go_enter Tryd.func27, Tryd.ntmps27
    go_wp2
    go_ret
    exact ⟨Z7, Z8⟩
   ·rw [if_neg c4] at H
    have c4b0 : (a0 == 3) = false := beq_eq_false_iff_ne.mpr c4
    have c4b1 : (a0 != 3) = true := bne_iff_ne.mpr c4
    by_cases c5 : a0 = 4
    ·rw [if_pos c5] at H
     have c5b0 : (a0 == 4) = true := beq_iff_eq.mpr c5
     have c5b1 : (a0 != 4) = false := bne_eq_false_iff_eq.mpr c5
     clear c5
     obtain rfl := Option.some.inj H
     go_enter Tryd.func27, Tryd.ntmps27
     go_wp2
     go_ret
     exact ⟨Z7, Z8⟩
    ·rw [if_neg c5] at H
     have c5b0 : (a0 == 4) = false := beq_eq_false_iff_ne.mpr c5
     have c5b1 : (a0 != 4) = true := bne_iff_ne.mpr c5
     by_cases c6 : a0 = 5
     ·rw [if_pos c6] at H
      have c6b0 : (a0 == 5) = true := beq_iff_eq.mpr c6
      have c6b1 : (a0 != 5) = false := bne_eq_false_iff_eq.mpr c6
      clear c6
      obtain rfl := Option.some.inj H
      go_enter Tryd.func27, Tryd.ntmps27
      go_wp2
      go_ret
      exact ⟨Z7, Z8⟩
     ·rw [if_neg c6] at H
      have c6b0 : (a0 == 5) = false := beq_eq_false_iff_ne.mpr c6
      have c6b1 : (a0 != 5) = true := bne_iff_ne.mpr c6
      by_cases c7 : a0 = 6
      ·rw [if_pos c7] at H
       have c7b0 : (a0 == 6) = true := beq_iff_eq.mpr c7
       have c7b1 : (a0 != 6) = false := bne_eq_false_iff_eq.mpr c7
       clear c7
       obtain rfl := Option.some.inj H
       go_enter Tryd.func27, Tryd.ntmps27
       go_wp2
       go_ret
       exact ⟨Z7, Z8⟩
      ·rw [if_neg c7] at H
       have c7b0 : (a0 == 6) = false := beq_eq_false_iff_ne.mpr c7
       have c7b1 : (a0 != 6) = true := bne_iff_ne.mpr c7
       obtain rfl := Option.some.inj H
       go_enter Tryd.func27, Tryd.ntmps27
       go_wp2
       go_ret
       exact ⟨Z7, Z8⟩

/-! ### impl_ItemText: function 10 -/
def impl_ItemText.f (k : Nat) (a0_0 : Int) (a0_1 : ByteArray) (a0_2 : Int) (a0_3 : Bool) (a0_4 : Int) : Option (ByteArray) := (impl_ItemOk.f k a0_0 a0_1 a0_2 a0_3 a0_4).bind fun t399 => (if t399 = true then (if a0_0 = 0 then ((impl_HexText.f a0_4).bind fun t400 => (if 1 + t400.size ≤ 9223372036854775807 then (some ((⟨#[37]⟩ : ByteArray) ++ t400)) else (none))) else (if a0_0 = 7 then ((impl_digits.f a0_2 a0_3).bind fun t401 => (if 1 + t401.size ≤ 9223372036854775807 then (some ((⟨#[126]⟩ : ByteArray) ++ t401)) else (none))) else (if a0_0 = 8 then ((impl_digits.f a0_2 a0_3).bind fun t402 => (if 1 + t402.size ≤ 9223372036854775807 then (some ((⟨#[61]⟩ : ByteArray) ++ t402)) else (none))) else (if a0_0 = 9 then (if 1 + a0_1.size ≤ 9223372036854775807 then ((impl_digits.f a0_2 false).bind fun t403 => (if ((⟨#[38]⟩ : ByteArray) ++ a0_1).size + t403.size ≤ 9223372036854775807 then (some (((⟨#[38]⟩ : ByteArray) ++ a0_1) ++ t403)) else (none))) else (none)) else ((impl_mark.f a0_0).bind fun t404 => (if t404.size + a0_1.size ≤ 9223372036854775807 then (some (t404 ++ a0_1)) else (none))))))) else (some (⟨#[]⟩ : ByteArray)))
theorem impl_ItemText.mono : ∀ a0 a1 a2 a3 a4 k, LeO (impl_ItemText.f k a0 a1 a2 a3 a4) (impl_ItemText.f (k + 1) a0 a1 a2 a3 a4) := by
 intro a0 a1 a2 a3 a4 k
 unfold impl_ItemText.f
 repeat' first
   | (with_reducible exact impl_ItemOk.mono _ _ _ _ _ _)
   | (with_reducible exact LeO.refl _)
   | (with_reducible exact LeO.none _)
   | (with_reducible refine LeO.ite ?_ ?_)
   | (with_reducible refine LeO.bind ?_ (fun _ => ?_))
   | exact impl_ItemOk.mono _ _ _ _ _ _
   | exact LeO.none _
   | refine LeO.ite ?_ ?_
   | refine LeO.bind ?_ (fun _ => ?_)
def impl_ItemText.T10 : Bool × List (List Nat × List Nat) := (true, [([], []), ([0], [0]), ([1], [1]), ([], []), ([3], [3]), ([4], [4]), ([2, 5], [2, 5]), ([6, 5, 0, 1, 2, 3, 4, 5, 6], [6])])
def impl_ItemText.B10 : List Nat := [0, 1, 3, 0, 8, 24, 63, 127]
theorem impl_ItemText.tab10 : rtab .any (opsOf Tryd.f10 10) = impl_ItemText.T10 := Z0
theorem impl_ItemText.bits10 : waitsOk impl_ItemText.T10.2 impl_ItemText.B10 = true := Z0
set_option maxHeartbeats 8000000 in
set_option maxRecDepth 100000 in
theorem impl_ItemText.calls (k : Nat) (a0_0 : Int) (a0_1 : ByteArray) (a0_2 : Int) (a0_3 : Bool) (a0_4 : Int) (r : ByteArray) (w : World) (h : impl_ItemText.f k a0_0 a0_1 a0_2 a0_3 a0_4 = some r) (HT0 : Aside0 (Itoa.Tab w)) :
  Calls Tryd.prog 10 #[.agg #[.int .i64 a0_0, .string a0_1, .int .i32 a0_2, .bool a0_3, .int .u32 a0_4]] w fun e w' => e = .returned (.string r) ∧ Below w.heap.size w w' := by
 have hu27 := Tryd.underlying27
 have HB := Z (Below.refl w.heap.size w)
 have H : ((impl_ItemOk.f k a0_0 a0_1 a0_2 a0_3 a0_4).bind fun t399 => (if t399 = true then (if a0_0 = 0 then ((impl_HexText.f a0_4).bind fun t400 => (if 1 + t400.size ≤ 9223372036854775807 then (some ((⟨#[37]⟩ : ByteArray) ++ t400)) else (none))) else (if a0_0 = 7 then ((impl_digits.f a0_2 a0_3).bind fun t401 => (if 1 + t401.size ≤ 9223372036854775807 then (some ((⟨#[126]⟩ : ByteArray) ++ t401)) else (none))) else (if a0_0 = 8 then ((impl_digits.f a0_2 a0_3).bind fun t402 => (if 1 + t402.size ≤ 9223372036854775807 then (some ((⟨#[61]⟩ : ByteArray) ++ t402)) else (none))) else (if a0_0 = 9 then (if 1 + a0_1.size ≤ 9223372036854775807 then ((impl_digits.f a0_2 false).bind fun t403 => (if ((⟨#[38]⟩ : ByteArray) ++ a0_1).size + t403.size ≤ 9223372036854775807 then (some (((⟨#[38]⟩ : ByteArray) ++ a0_1) ++ t403)) else (none))) else (none)) else ((impl_mark.f a0_0).bind fun t404 => (if t404.size + a0_1.size ≤ 9223372036854775807 then (some (t404 ++ a0_1)) else (none))))))) else (some (⟨#[]⟩ : ByteArray)))) = some r := h
 clear h
 replace H := Option.bind_eq_some_iff.mp H
 obtain ⟨t399, A20, H⟩ := H
 replace H : (if t399 = true then (if a0_0 = 0 then ((impl_HexText.f a0_4).bind fun t400 => (if 1 + t400.size ≤ 9223372036854775807 then (some ((⟨#[37]⟩ : ByteArray) ++ t400)) else (none))) else (if a0_0 = 7 then ((impl_digits.f a0_2 a0_3).bind fun t401 => (if 1 + t401.size ≤ 9223372036854775807 then (some ((⟨#[126]⟩ : ByteArray) ++ t401)) else (none))) else (if a0_0 = 8 then ((impl_digits.f a0_2 a0_3).bind fun t402 => (if 1 + t402.size ≤ 9223372036854775807 then (some ((⟨#[61]⟩ : ByteArray) ++ t402)) else (none))) else (if a0_0 = 9 then (if 1 + a0_1.size ≤ 9223372036854775807 then ((impl_digits.f a0_2 false).bind fun t403 => (if ((⟨#[38]⟩ : ByteArray) ++ a0_1).size + t403.size ≤ 9223372036854775807 then (some (((⟨#[38]⟩ : ByteArray) ++ a0_1) ++ t403)) else (none))) else (none)) else ((impl_mark.f a0_0).bind fun t404 => (if t404.size + a0_1.size ≤ 9223372036854775807 then (some (t404 ++ a0_1)) else (none))))))) else (some (⟨#[]⟩ : ByteArray))) = some r := H
 have A2 := Aside0.mk A20
 clear A20
 by_cases c3 : t399 = true
 ·subst c3
  have H1 : (if a0_0 = 0 then ((impl_HexText.f a0_4).bind fun t400 => (if 1 + t400.size ≤ 9223372036854775807 then (some ((⟨#[37]⟩ : ByteArray) ++ t400)) else (none))) else (if a0_0 = 7 then ((impl_digits.f a0_2 a0_3).bind fun t401 => (if 1 + t401.size ≤ 9223372036854775807 then (some ((⟨#[126]⟩ : ByteArray) ++ t401)) else (none))) else (if a0_0 = 8 then ((impl_digits.f a0_2 a0_3).bind fun t402 => (if 1 + t402.size ≤ 9223372036854775807 then (some ((⟨#[61]⟩ : ByteArray) ++ t402)) else (none))) else (if a0_0 = 9 then (if 1 + a0_1.size ≤ 9223372036854775807 then ((impl_digits.f a0_2 false).bind fun t403 => (if ((⟨#[38]⟩ : ByteArray) ++ a0_1).size + t403.size ≤ 9223372036854775807 then (some (((⟨#[38]⟩ : ByteArray) ++ a0_1) ++ t403)) else (none))) else (none)) else ((impl_mark.f a0_0).bind fun t404 => (if t404.size + a0_1.size ≤ 9223372036854775807 then (some (t404 ++ a0_1)) else (none))))))) = some r := Z2
  clear H
  have H := H1
  clear H1
  by_cases c4 : a0_0 = 0
  ·rw [if_pos c4] at H
   have c4b0 : (a0_0 == 0) = true := beq_iff_eq.mpr c4
   have c4b1 : (a0_0 != 0) = false := bne_eq_false_iff_eq.mpr c4
   clear c4
   replace H := Option.bind_eq_some_iff.mp H
   obtain ⟨t400, A50, H⟩ := H
   replace H : (if 1 + t400.size ≤ 9223372036854775807 then (some ((⟨#[37]⟩ : ByteArray) ++ t400)) else (none)) = some r := H
   have A5 := Aside0.mk A50
   clear A50
   by_cases c6 : 1 + t400.size ≤ 9223372036854775807
   ·rw [if_pos c6] at H
    have c6b0 := eq_true c6
    have c6b1 : decide (1 + t400.size ≤ 9223372036854775807) = true := decide_eq_true c6
    try have c6b2 : (9223372036854775807 < 1 + t400.size) = False := eq_false (Nat.not_lt.2 c6)
    obtain rfl := Option.some.inj H
    go_enter Tryd.func10, Tryd.ntmps10
    go_wp2_with (first | ((with_reducible refine gate_dst (N := 1) rfl ?_); refine box_event (by rfl) (N := 1) (by rfl) (cs := #[.int .i64 a0_0, .string a0_1, .int .i32 a0_2, .bool a0_3, .int .u32 a0_4]) (t := 27) Z3 ?_; intro gb398 hg w7 hbox hb; have BK398 := Z (hbox); have GW398 := Z ((Z79 : w.heap.size ≤ gb398)); have GE398 := Z ((Z79 : w.heap.size ≤ gb398)); replace HB := Z (below_step Z67 hb); clear hb hbox hg; have hcz8_0 : w7.cell? ⟨gb398, 0, none⟩ = some (.int .i64 a0_0) := (blk_cell BK398.out 0).trans rfl; have hcz8_1 : w7.cell? ⟨gb398, 1, none⟩ = some (.string a0_1) := (blk_cell BK398.out 1).trans rfl; have hcz8_2 : w7.cell? ⟨gb398, 2, none⟩ = some (.int .i32 a0_2) := (blk_cell BK398.out 2).trans rfl; have hcz8_3 : w7.cell? ⟨gb398, 3, none⟩ = some (.bool a0_3) := (blk_cell BK398.out 3).trans rfl; have hcz8_4 : w7.cell? ⟨gb398, 4, none⟩ = some (.int .u32 a0_4) := (blk_cell BK398.out 4).trans rfl; have hfz8_0 := blk_frozen BK398.out 0; have hfz8_1 := blk_frozen BK398.out 1; have hfz8_2 := blk_frozen BK398.out 2; have hfz8_3 := blk_frozen BK398.out 3; have hfz8_4 := blk_frozen BK398.out 4) | ((with_reducible refine gate_callee (f := 24) rfl ?_); refine goesL_ (some 5) rfl rfl Tryd.func24 Z0 rfl #[.agg #[.int .i64 a0_0, .string a0_1, .int .i32 a0_2, .bool a0_3, .int .u32 a0_4]] rfl Z9 ?_; (with_reducible refine (impl_ItemOk.calls k a0_0 a0_1 a0_2 a0_3 a0_4 true _ A2.out).mono ?_); rintro e w9 ⟨rfl, hb⟩; refine ⟨_, rfl, ?_⟩; replace BK398 := Z (blk_below (g := gb398) (o := .cells #[.int .i64 a0_0, .string a0_1, .int .i32 a0_2, .bool a0_3, .int .u32 a0_4] 27 (0, 0)) (Z15 BK398) hb); replace HB := Z (below_step Z67 hb); (try clear hb); (try clear hb2); (try clear hk); (try clear hi); have hcz10_0 : w9.cell? ⟨gb398, 0, none⟩ = some (.int .i64 a0_0) := (blk_cell BK398.out 0).trans rfl; have hcz10_1 : w9.cell? ⟨gb398, 1, none⟩ = some (.string a0_1) := (blk_cell BK398.out 1).trans rfl; have hcz10_2 : w9.cell? ⟨gb398, 2, none⟩ = some (.int .i32 a0_2) := (blk_cell BK398.out 2).trans rfl; have hcz10_3 : w9.cell? ⟨gb398, 3, none⟩ = some (.bool a0_3) := (blk_cell BK398.out 3).trans rfl; have hcz10_4 : w9.cell? ⟨gb398, 4, none⟩ = some (.int .u32 a0_4) := (blk_cell BK398.out 4).trans rfl; have hfz10_0 := blk_frozen BK398.out 0; have hfz10_1 := blk_frozen BK398.out 1; have hfz10_2 := blk_frozen BK398.out 2; have hfz10_3 := blk_frozen BK398.out 3; have hfz10_4 := blk_frozen BK398.out 4) | ((with_reducible refine gate_callee (f := 25) rfl ?_); refine goesL_ (some 13) rfl rfl Tryd.func25 Z0 rfl #[.int .u32 a0_4] rfl Z9 ?_; (with_reducible refine (impl_HexText.calls a0_4 t400 _ A5.out ⟨Itoa.tab_at HT0.out Z73⟩).mono ?_); rintro e w11 ⟨rfl, hb⟩; refine ⟨_, rfl, ?_⟩; replace BK398 := Z (blk_below (g := gb398) (o := .cells #[.int .i64 a0_0, .string a0_1, .int .i32 a0_2, .bool a0_3, .int .u32 a0_4] 27 (0, 0)) (Z15 BK398) hb); replace HB := Z (below_step Z67 hb); (try clear hb); (try clear hb2); (try clear hk); (try clear hi)))
    go_ret
    exact ⟨Z68, Z67⟩
   ·rw [if_neg c6] at H
    exact absurd H (by simp)
  ·rw [if_neg c4] at H
   have c4b0 : (a0_0 == 0) = false := beq_eq_false_iff_ne.mpr c4
   have c4b1 : (a0_0 != 0) = true := bne_iff_ne.mpr c4
   by_cases c12 : a0_0 = 7
   ·rw [if_pos c12] at H
    have c12b0 : (a0_0 == 7) = true := beq_iff_eq.mpr c12
    have c12b1 : (a0_0 != 7) = false := bne_eq_false_iff_eq.mpr c12
    clear c12
    replace H := Option.bind_eq_some_iff.mp H
    obtain ⟨t401, A130, H⟩ := H
    replace H : (if 1 + t401.size ≤ 9223372036854775807 then (some ((⟨#[126]⟩ : ByteArray) ++ t401)) else (none)) = some r := H
    have A13 := Aside0.mk A130
    clear A130
    by_cases c14 : 1 + t401.size ≤ 9223372036854775807
    ·rw [if_pos c14] at H
     have c14b0 := eq_true c14
     have c14b1 : decide (1 + t401.size ≤ 9223372036854775807) = true := decide_eq_true c14
     try have c14b2 : (9223372036854775807 < 1 + t401.size) = False := eq_false (Nat.not_lt.2 c14)
     obtain rfl := Option.some.inj H
     go_enter Tryd.func10, Tryd.ntmps10
     go_wp2_with (first | ((with_reducible refine gate_dst (N := 1) rfl ?_); refine box_event (by rfl) (N := 1) (by rfl) (cs := #[.int .i64 a0_0, .string a0_1, .int .i32 a0_2, .bool a0_3, .int .u32 a0_4]) (t := 27) Z3 ?_; intro gb398 hg w15 hbox hb; have BK398 := Z (hbox); have GW398 := Z ((Z79 : w.heap.size ≤ gb398)); have GE398 := Z ((Z79 : w.heap.size ≤ gb398)); replace HB := Z (below_step Z67 hb); clear hb hbox hg; have hcz16_0 : w15.cell? ⟨gb398, 0, none⟩ = some (.int .i64 a0_0) := (blk_cell BK398.out 0).trans rfl; have hcz16_1 : w15.cell? ⟨gb398, 1, none⟩ = some (.string a0_1) := (blk_cell BK398.out 1).trans rfl; have hcz16_2 : w15.cell? ⟨gb398, 2, none⟩ = some (.int .i32 a0_2) := (blk_cell BK398.out 2).trans rfl; have hcz16_3 : w15.cell? ⟨gb398, 3, none⟩ = some (.bool a0_3) := (blk_cell BK398.out 3).trans rfl; have hcz16_4 : w15.cell? ⟨gb398, 4, none⟩ = some (.int .u32 a0_4) := (blk_cell BK398.out 4).trans rfl; have hfz16_0 := blk_frozen BK398.out 0; have hfz16_1 := blk_frozen BK398.out 1; have hfz16_2 := blk_frozen BK398.out 2; have hfz16_3 := blk_frozen BK398.out 3; have hfz16_4 := blk_frozen BK398.out 4) | ((with_reducible refine gate_callee (f := 24) rfl ?_); refine goesL_ (some 5) rfl rfl Tryd.func24 Z0 rfl #[.agg #[.int .i64 a0_0, .string a0_1, .int .i32 a0_2, .bool a0_3, .int .u32 a0_4]] rfl Z9 ?_; (with_reducible refine (impl_ItemOk.calls k a0_0 a0_1 a0_2 a0_3 a0_4 true _ A2.out).mono ?_); rintro e w17 ⟨rfl, hb⟩; refine ⟨_, rfl, ?_⟩; replace BK398 := Z (blk_below (g := gb398) (o := .cells #[.int .i64 a0_0, .string a0_1, .int .i32 a0_2, .bool a0_3, .int .u32 a0_4] 27 (0, 0)) (Z15 BK398) hb); replace HB := Z (below_step Z67 hb); (try clear hb); (try clear hb2); (try clear hk); (try clear hi); have hcz18_0 : w17.cell? ⟨gb398, 0, none⟩ = some (.int .i64 a0_0) := (blk_cell BK398.out 0).trans rfl; have hcz18_1 : w17.cell? ⟨gb398, 1, none⟩ = some (.string a0_1) := (blk_cell BK398.out 1).trans rfl; have hcz18_2 : w17.cell? ⟨gb398, 2, none⟩ = some (.int .i32 a0_2) := (blk_cell BK398.out 2).trans rfl; have hcz18_3 : w17.cell? ⟨gb398, 3, none⟩ = some (.bool a0_3) := (blk_cell BK398.out 3).trans rfl; have hcz18_4 : w17.cell? ⟨gb398, 4, none⟩ = some (.int .u32 a0_4) := (blk_cell BK398.out 4).trans rfl; have hfz18_0 := blk_frozen BK398.out 0; have hfz18_1 := blk_frozen BK398.out 1; have hfz18_2 := blk_frozen BK398.out 2; have hfz18_3 := blk_frozen BK398.out 3; have hfz18_4 := blk_frozen BK398.out 4) | ((with_reducible refine gate_callee (f := 26) rfl ?_); refine goesL_ (some 23) rfl rfl Tryd.func26 Z0 rfl #[.int .i32 a0_2, .bool a0_3] rfl Z9 ?_; (with_reducible refine (impl_digits.calls a0_2 a0_3 t401 _ A13.out ⟨Itoa.tab_at HT0.out Z73⟩).mono ?_); rintro e w19 ⟨rfl, hb⟩; refine ⟨_, rfl, ?_⟩; replace BK398 := Z (blk_below (g := gb398) (o := .cells #[.int .i64 a0_0, .string a0_1, .int .i32 a0_2, .bool a0_3, .int .u32 a0_4] 27 (0, 0)) (Z15 BK398) hb); replace HB := Z (below_step Z67 hb); (try clear hb); (try clear hb2); (try clear hk); (try clear hi)))
     go_ret
     exact ⟨Z68, Z67⟩
    ·rw [if_neg c14] at H
     exact absurd H (by simp)
   ·rw [if_neg c12] at H
    have c12b0 : (a0_0 == 7) = false := beq_eq_false_iff_ne.mpr c12
    have c12b1 : (a0_0 != 7) = true := bne_iff_ne.mpr c12
    by_cases c20 : a0_0 = 8
    ·rw [if_pos c20] at H
     have c20b0 : (a0_0 == 8) = true := beq_iff_eq.mpr c20
     have c20b1 : (a0_0 != 8) = false := bne_eq_false_iff_eq.mpr c20
     clear c20
     replace H := Option.bind_eq_some_iff.mp H
     obtain ⟨t402, A210, H⟩ := H
     replace H : (if 1 + t402.size ≤ 9223372036854775807 then (some ((⟨#[61]⟩ : ByteArray) ++ t402)) else (none)) = some r := H
     have A21 := Aside0.mk A210
     clear A210
     by_cases c22 : 1 + t402.size ≤ 9223372036854775807
     ·rw [if_pos c22] at H
      have c22b0 := eq_true c22
      have c22b1 : decide (1 + t402.size ≤ 9223372036854775807) = true := decide_eq_true c22
      try have c22b2 : (9223372036854775807 < 1 + t402.size) = False := eq_false (Nat.not_lt.2 c22)
      obtain rfl := Option.some.inj H
      go_enter Tryd.func10, Tryd.ntmps10
      go_wp2_with (first | ((with_reducible refine gate_dst (N := 1) rfl ?_); refine box_event (by rfl) (N := 1) (by rfl) (cs := #[.int .i64 a0_0, .string a0_1, .int .i32 a0_2, .bool a0_3, .int .u32 a0_4]) (t := 27) Z3 ?_; intro gb398 hg w23 hbox hb; have BK398 := Z (hbox); have GW398 := Z ((Z79 : w.heap.size ≤ gb398)); have GE398 := Z ((Z79 : w.heap.size ≤ gb398)); replace HB := Z (below_step Z67 hb); clear hb hbox hg; have hcz24_0 : w23.cell? ⟨gb398, 0, none⟩ = some (.int .i64 a0_0) := (blk_cell BK398.out 0).trans rfl; have hcz24_1 : w23.cell? ⟨gb398, 1, none⟩ = some (.string a0_1) := (blk_cell BK398.out 1).trans rfl; have hcz24_2 : w23.cell? ⟨gb398, 2, none⟩ = some (.int .i32 a0_2) := (blk_cell BK398.out 2).trans rfl; have hcz24_3 : w23.cell? ⟨gb398, 3, none⟩ = some (.bool a0_3) := (blk_cell BK398.out 3).trans rfl; have hcz24_4 : w23.cell? ⟨gb398, 4, none⟩ = some (.int .u32 a0_4) := (blk_cell BK398.out 4).trans rfl; have hfz24_0 := blk_frozen BK398.out 0; have hfz24_1 := blk_frozen BK398.out 1; have hfz24_2 := blk_frozen BK398.out 2; have hfz24_3 := blk_frozen BK398.out 3; have hfz24_4 := blk_frozen BK398.out 4) | ((with_reducible refine gate_callee (f := 24) rfl ?_); refine goesL_ (some 5) rfl rfl Tryd.func24 Z0 rfl #[.agg #[.int .i64 a0_0, .string a0_1, .int .i32 a0_2, .bool a0_3, .int .u32 a0_4]] rfl Z9 ?_; (with_reducible refine (impl_ItemOk.calls k a0_0 a0_1 a0_2 a0_3 a0_4 true _ A2.out).mono ?_); rintro e w25 ⟨rfl, hb⟩; refine ⟨_, rfl, ?_⟩; replace BK398 := Z (blk_below (g := gb398) (o := .cells #[.int .i64 a0_0, .string a0_1, .int .i32 a0_2, .bool a0_3, .int .u32 a0_4] 27 (0, 0)) (Z15 BK398) hb); replace HB := Z (below_step Z67 hb); (try clear hb); (try clear hb2); (try clear hk); (try clear hi); have hcz26_0 : w25.cell? ⟨gb398, 0, none⟩ = some (.int .i64 a0_0) := (blk_cell BK398.out 0).trans rfl; have hcz26_1 : w25.cell? ⟨gb398, 1, none⟩ = some (.string a0_1) := (blk_cell BK398.out 1).trans rfl; have hcz26_2 : w25.cell? ⟨gb398, 2, none⟩ = some (.int .i32 a0_2) := (blk_cell BK398.out 2).trans rfl; have hcz26_3 : w25.cell? ⟨gb398, 3, none⟩ = some (.bool a0_3) := (blk_cell BK398.out 3).trans rfl; have hcz26_4 : w25.cell? ⟨gb398, 4, none⟩ = some (.int .u32 a0_4) := (blk_cell BK398.out 4).trans rfl; have hfz26_0 := blk_frozen BK398.out 0; have hfz26_1 := blk_frozen BK398.out 1; have hfz26_2 := blk_frozen BK398.out 2; have hfz26_3 := blk_frozen BK398.out 3; have hfz26_4 := blk_frozen BK398.out 4) | ((with_reducible refine gate_callee (f := 26) rfl ?_); refine goesL_ (some 33) rfl rfl Tryd.func26 Z0 rfl #[.int .i32 a0_2, .bool a0_3] rfl Z9 ?_; (with_reducible refine (impl_digits.calls a0_2 a0_3 t402 _ A21.out ⟨Itoa.tab_at HT0.out Z73⟩).mono ?_); rintro e w27 ⟨rfl, hb⟩; refine ⟨_, rfl, ?_⟩; replace BK398 := Z (blk_below (g := gb398) (o := .cells #[.int .i64 a0_0, .string a0_1, .int .i32 a0_2, .bool a0_3, .int .u32 a0_4] 27 (0, 0)) (Z15 BK398) hb); replace HB := Z (below_step Z67 hb); (try clear hb); (try clear hb2); (try clear hk); (try clear hi)))
      go_ret
      exact ⟨Z68, Z67⟩
     ·rw [if_neg c22] at H
      exact absurd H (by simp)
    ·rw [if_neg c20] at H
     have c20b0 : (a0_0 == 8) = false := beq_eq_false_iff_ne.mpr c20
     have c20b1 : (a0_0 != 8) = true := bne_iff_ne.mpr c20
     by_cases c28 : a0_0 = 9
     ·rw [if_pos c28] at H
      have c28b0 : (a0_0 == 9) = true := beq_iff_eq.mpr c28
      have c28b1 : (a0_0 != 9) = false := bne_eq_false_iff_eq.mpr c28
      clear c28
      by_cases c29 : 1 + a0_1.size ≤ 9223372036854775807
      ·rw [if_pos c29] at H
       have c29b0 := eq_true c29
       have c29b1 : decide (1 + a0_1.size ≤ 9223372036854775807) = true := decide_eq_true c29
       try have c29b2 : (9223372036854775807 < 1 + a0_1.size) = False := eq_false (Nat.not_lt.2 c29)
       replace H := Option.bind_eq_some_iff.mp H
       obtain ⟨t403, A300, H⟩ := H
       replace H : (if ((⟨#[38]⟩ : ByteArray) ++ a0_1).size + t403.size ≤ 9223372036854775807 then (some (((⟨#[38]⟩ : ByteArray) ++ a0_1) ++ t403)) else (none)) = some r := H
       have A30 := Aside0.mk A300
       clear A300
       by_cases c31 : ((⟨#[38]⟩ : ByteArray) ++ a0_1).size + t403.size ≤ 9223372036854775807
       ·rw [if_pos c31] at H
        have c31b0 := eq_true c31
        have c31b1 : decide (((⟨#[38]⟩ : ByteArray) ++ a0_1).size + t403.size ≤ 9223372036854775807) = true := decide_eq_true c31
        try have c31b2 : (9223372036854775807 < ((⟨#[38]⟩ : ByteArray) ++ a0_1).size + t403.size) = False := eq_false (Nat.not_lt.2 c31)
        try (have c31b3 := c31; simp only [ByteArray.size_append] at c31b3; replace c31b3 := eq_true c31b3)
        try (have c31b4 := c31b2; simp only [ByteArray.size_append] at c31b4; (try rw [show (⟨#[38]⟩ : ByteArray).size = 1 from rfl] at c31b4))
        obtain rfl := Option.some.inj H
        go_enter Tryd.func10, Tryd.ntmps10
        try go_wp2_with (first | ((with_reducible refine gate_dst (N := 1) rfl ?_); refine box_event (by rfl) (N := 1) (by rfl) (cs := #[.int .i64 a0_0, .string a0_1, .int .i32 a0_2, .bool a0_3, .int .u32 a0_4]) (t := 27) Z3 ?_; intro gb398 hg w32 hbox hb; have BK398 := Z (hbox); have GW398 := Z ((Z79 : w.heap.size ≤ gb398)); have GE398 := Z ((Z79 : w.heap.size ≤ gb398)); replace HB := Z (below_step Z67 hb); clear hb hbox hg; have hcz33_0 : w32.cell? ⟨gb398, 0, none⟩ = some (.int .i64 a0_0) := (blk_cell BK398.out 0).trans rfl; have hcz33_1 : w32.cell? ⟨gb398, 1, none⟩ = some (.string a0_1) := (blk_cell BK398.out 1).trans rfl; have hcz33_2 : w32.cell? ⟨gb398, 2, none⟩ = some (.int .i32 a0_2) := (blk_cell BK398.out 2).trans rfl; have hcz33_3 : w32.cell? ⟨gb398, 3, none⟩ = some (.bool a0_3) := (blk_cell BK398.out 3).trans rfl; have hcz33_4 : w32.cell? ⟨gb398, 4, none⟩ = some (.int .u32 a0_4) := (blk_cell BK398.out 4).trans rfl; have hfz33_0 := blk_frozen BK398.out 0; have hfz33_1 := blk_frozen BK398.out 1; have hfz33_2 := blk_frozen BK398.out 2; have hfz33_3 := blk_frozen BK398.out 3; have hfz33_4 := blk_frozen BK398.out 4) | ((with_reducible refine gate_callee (f := 24) rfl ?_); refine goesL_ (some 5) rfl rfl Tryd.func24 Z0 rfl #[.agg #[.int .i64 a0_0, .string a0_1, .int .i32 a0_2, .bool a0_3, .int .u32 a0_4]] rfl Z9 ?_; (with_reducible refine (impl_ItemOk.calls k a0_0 a0_1 a0_2 a0_3 a0_4 true _ A2.out).mono ?_); rintro e w34 ⟨rfl, hb⟩; refine ⟨_, rfl, ?_⟩; replace BK398 := Z (blk_below (g := gb398) (o := .cells #[.int .i64 a0_0, .string a0_1, .int .i32 a0_2, .bool a0_3, .int .u32 a0_4] 27 (0, 0)) (Z15 BK398) hb); replace HB := Z (below_step Z67 hb); (try clear hb); (try clear hb2); (try clear hk); (try clear hi); have hcz35_0 : w34.cell? ⟨gb398, 0, none⟩ = some (.int .i64 a0_0) := (blk_cell BK398.out 0).trans rfl; have hcz35_1 : w34.cell? ⟨gb398, 1, none⟩ = some (.string a0_1) := (blk_cell BK398.out 1).trans rfl; have hcz35_2 : w34.cell? ⟨gb398, 2, none⟩ = some (.int .i32 a0_2) := (blk_cell BK398.out 2).trans rfl; have hcz35_3 : w34.cell? ⟨gb398, 3, none⟩ = some (.bool a0_3) := (blk_cell BK398.out 3).trans rfl; have hcz35_4 : w34.cell? ⟨gb398, 4, none⟩ = some (.int .u32 a0_4) := (blk_cell BK398.out 4).trans rfl; have hfz35_0 := blk_frozen BK398.out 0; have hfz35_1 := blk_frozen BK398.out 1; have hfz35_2 := blk_frozen BK398.out 2; have hfz35_3 := blk_frozen BK398.out 3; have hfz35_4 := blk_frozen BK398.out 4))
        have n0_ := Z (blk_drew BK398.out)
        have n1_ := Z (below_drew1 HB.out)
        clear BK398
        clear HB
        have BK398 := n0_
        have HB := n1_
        clear n0_ n1_
        refine start_ (n := 8) (S := fun w' => w'.cell? ⟨gb398, 0, none⟩ = some (.int .i64 a0_0) ∧ w'.cell? ⟨gb398, 1, none⟩ = some (.string a0_1) ∧ w'.cell? ⟨gb398, 2, none⟩ = some (.int .i32 a0_2) ∧ w'.cell? ⟨gb398, 3, none⟩ = some (.bool a0_3) ∧ w'.cell? ⟨gb398, 4, none⟩ = some (.int .u32 a0_4)) (ds := []) #[false, false, false, false, false, false, false, false] Z0 rfl rfl ⟨(blk_cell BK398.out 0).trans rfl, (blk_cell BK398.out 1).trans rfl, (blk_cell BK398.out 2).trans rfl, (blk_cell BK398.out 3).trans rfl, (blk_cell BK398.out 4).trans rfl⟩ (fun hHeld => ?_); refine with_tabW impl_ItemText.tab10 impl_ItemText.bits10 (fun HT_ HW_ => ?_)
        generalize w34.drew = w36 at BK398 HB hHeld ⊢
        refine pure_ (i := 0) (N := some 39) (v := ?_) (a' := ?_) #[true, false, false, false, false, false, false, false] rfl rfl (any_of HT_.out Z0) (fun _ _ _ h => h) (Or.inl ⟨by rfl, ?_⟩) ?_ ?_
        rotate_left
        ·intro w'
         go_simp
         with_reducible rfl
        rotate_left
        ·simp only [Act.put, List.setIfInBounds_toArray, List.set_cons_zero, List.set_cons_succ, i64_w, i32_w]
         rfl
        refine pure_ (i := 3) (N := some 42) (v := ?_) (a' := ?_) #[true, false, false, true, false, false, false, false] rfl rfl (any_of HT_.out Z0) (fun _ _ _ h => h) (Or.inl ⟨by rfl, ?_⟩) ?_ ?_
        rotate_left
        ·intro w'
         go_simp
         with_reducible rfl
        rotate_left
        ·simp only [Act.put, List.setIfInBounds_toArray, List.set_cons_zero, List.set_cons_succ, i64_w, i32_w]
         rfl
        refine take_ (i := 1) (N := some 40) (v := ?_) (a' := ?_) #[true, true, false, true, false, false, false, false] rfl rfl (take_ofW HT_.out HW_.out Z0) (fun _ _ _ h => h) (Or.inl ⟨by rfl, ?_⟩) hHeld ?_ ?_
        rotate_left
        ·rintro w' ⟨s0, s1, s2, s3, s4⟩
         go_simp
         with_reducible rfl
        rotate_left
        ·simp only [Act.put, List.setIfInBounds_toArray, List.set_cons_zero, List.set_cons_succ, i64_w, i32_w]
         rfl
        refine pure_ (i := 2) (N := some 41) (v := ?_) (a' := ?_) #[true, true, true, true, false, false, false, false] rfl rfl (any_of HT_.out Z0) (fun _ _ _ h => h) (Or.inl ⟨by rfl, ?_⟩) ?_ ?_
        rotate_left
        ·intro w'
         go_simp
         with_reducible rfl
        rotate_left
        ·simp only [Act.put, List.setIfInBounds_toArray, List.set_cons_zero, List.set_cons_succ, i64_w, i32_w]
         rfl
        refine take_ (i := 4) (N := some 43) (v := ?_) (a' := ?_) #[true, true, true, true, true, false, false, false] rfl rfl (take_ofW HT_.out HW_.out Z0) (fun _ _ _ h => h) (Or.inl ⟨by rfl, ?_⟩) hHeld ?_ ?_
        rotate_left
        ·rintro w' ⟨s0, s1, s2, s3, s4⟩
         go_simp
         with_reducible rfl
        rotate_left
        ·simp only [Act.put, List.setIfInBounds_toArray, List.set_cons_zero, List.set_cons_succ, i64_w, i32_w]
         rfl
        refine one_ (i := 5) (N := some 44) #[true, true, true, true, true, true, false, false] rfl rfl (one_of HT_.out Z0) (by decide) (fun K hK => ?_)
        refine goes_ Tryd.func26 Z0 rfl #[.int .i32 a0_2, .bool false] (by rfl) rfl rfl Z9 ?_
        with_reducible refine (impl_digits.calls a0_2 false t403 _ A30.out ⟨Itoa.tab_at HT0.out Z73⟩).mono ?_
        rintro e w37 ⟨rfl, hb⟩
        refine ⟨_, rfl, ?_⟩
        have n0_ := Z (blk_below (g := gb398) (o := .cells #[.int .i64 a0_0, .string a0_1, .int .i32 a0_2, .bool a0_3, .int .u32 a0_4] 27 (0, 0)) (Z15 BK398) hb)
        have n1_ := Z (below_step Z67 hb)
        clear BK398
        clear HB
        have BK398 := n0_
        have HB := n1_
        clear n0_ n1_
        (try clear hb)
        (try clear hb2)
        (try clear hk)
        (try clear hi)
        refine hK.out _ _ ⟨(blk_cell BK398.out 0).trans rfl, (blk_cell BK398.out 1).trans rfl, (blk_cell BK398.out 2).trans rfl, (blk_cell BK398.out 3).trans rfl, (blk_cell BK398.out 4).trans rfl⟩ (fun hHeld => ?_)
        clear hK K
        refine norm_ (a' := ?_) ?_ ?_
        rotate_left
        ·show Act.put _ (some 44) _ = _
         simp only [Act.put, List.setIfInBounds_toArray, List.set_cons_zero, List.set_cons_succ, i64_w, i32_w]
         rfl
        refine pure_ (i := 6) (N := some 45) (v := ?_) (a' := ?_) #[true, true, true, true, true, true, true, false] rfl rfl (any_of HT_.out Z0) (fun _ _ _ h => h) (Or.inl ⟨by rfl, ?_⟩) ?_ ?_
        rotate_left
        ·intro w'
         go_simp
         with_reducible rfl
        rotate_left
        ·simp only [Act.put, List.setIfInBounds_toArray, List.set_cons_zero, List.set_cons_succ, i64_w, i32_w]
         rfl
        refine pure_ (i := 7) (N := some 2) (v := ?_) (a' := ?_) #[true, true, true, true, true, true, true, true] rfl rfl (any_of HT_.out Z0) (fun _ _ _ h => h) (Or.inl ⟨by rfl, ?_⟩) ?_ ?_
        rotate_left
        ·intro w'
         go_simp
         with_reducible rfl
        rotate_left
        ·simp only [Act.put, List.setIfInBounds_toArray, List.set_cons_zero, List.set_cons_succ, i64_w, i32_w]
         rfl
        refine done_ (done_of HT_.out Z0) ?_
        try go_wp2
        go_ret
        exact ⟨Z68, Z67⟩
       ·rw [if_neg c31] at H
        exact absurd H (by simp)
      ·rw [if_neg c29] at H
       exact absurd H (by simp)
     ·rw [if_neg c28] at H
      have c28b0 : (a0_0 == 9) = false := beq_eq_false_iff_ne.mpr c28
      have c28b1 : (a0_0 != 9) = true := bne_iff_ne.mpr c28
      replace H := Option.bind_eq_some_iff.mp H
      obtain ⟨t404, A380, H⟩ := H
      replace H : (if t404.size + a0_1.size ≤ 9223372036854775807 then (some (t404 ++ a0_1)) else (none)) = some r := H
      have A38 := Aside0.mk A380
      clear A380
      by_cases c39 : t404.size + a0_1.size ≤ 9223372036854775807
      ·rw [if_pos c39] at H
       have c39b0 := eq_true c39
       have c39b1 : decide (t404.size + a0_1.size ≤ 9223372036854775807) = true := decide_eq_true c39
       try have c39b2 : (9223372036854775807 < t404.size + a0_1.size) = False := eq_false (Nat.not_lt.2 c39)
       obtain rfl := Option.some.inj H
       go_enter Tryd.func10, Tryd.ntmps10
       try go_wp2_with (first | ((with_reducible refine gate_dst (N := 1) rfl ?_); refine box_event (by rfl) (N := 1) (by rfl) (cs := #[.int .i64 a0_0, .string a0_1, .int .i32 a0_2, .bool a0_3, .int .u32 a0_4]) (t := 27) Z3 ?_; intro gb398 hg w40 hbox hb; have BK398 := Z (hbox); have GW398 := Z ((Z79 : w.heap.size ≤ gb398)); have GE398 := Z ((Z79 : w.heap.size ≤ gb398)); replace HB := Z (below_step Z67 hb); clear hb hbox hg; have hcz41_0 : w40.cell? ⟨gb398, 0, none⟩ = some (.int .i64 a0_0) := (blk_cell BK398.out 0).trans rfl; have hcz41_1 : w40.cell? ⟨gb398, 1, none⟩ = some (.string a0_1) := (blk_cell BK398.out 1).trans rfl; have hcz41_2 : w40.cell? ⟨gb398, 2, none⟩ = some (.int .i32 a0_2) := (blk_cell BK398.out 2).trans rfl; have hcz41_3 : w40.cell? ⟨gb398, 3, none⟩ = some (.bool a0_3) := (blk_cell BK398.out 3).trans rfl; have hcz41_4 : w40.cell? ⟨gb398, 4, none⟩ = some (.int .u32 a0_4) := (blk_cell BK398.out 4).trans rfl; have hfz41_0 := blk_frozen BK398.out 0; have hfz41_1 := blk_frozen BK398.out 1; have hfz41_2 := blk_frozen BK398.out 2; have hfz41_3 := blk_frozen BK398.out 3; have hfz41_4 := blk_frozen BK398.out 4) | ((with_reducible refine gate_callee (f := 24) rfl ?_); refine goesL_ (some 5) rfl rfl Tryd.func24 Z0 rfl #[.agg #[.int .i64 a0_0, .string a0_1, .int .i32 a0_2, .bool a0_3, .int .u32 a0_4]] rfl Z9 ?_; (with_reducible refine (impl_ItemOk.calls k a0_0 a0_1 a0_2 a0_3 a0_4 true _ A2.out).mono ?_); rintro e w42 ⟨rfl, hb⟩; refine ⟨_, rfl, ?_⟩; replace BK398 := Z (blk_below (g := gb398) (o := .cells #[.int .i64 a0_0, .string a0_1, .int .i32 a0_2, .bool a0_3, .int .u32 a0_4] 27 (0, 0)) (Z15 BK398) hb); replace HB := Z (below_step Z67 hb); (try clear hb); (try clear hb2); (try clear hk); (try clear hi); have hcz43_0 : w42.cell? ⟨gb398, 0, none⟩ = some (.int .i64 a0_0) := (blk_cell BK398.out 0).trans rfl; have hcz43_1 : w42.cell? ⟨gb398, 1, none⟩ = some (.string a0_1) := (blk_cell BK398.out 1).trans rfl; have hcz43_2 : w42.cell? ⟨gb398, 2, none⟩ = some (.int .i32 a0_2) := (blk_cell BK398.out 2).trans rfl; have hcz43_3 : w42.cell? ⟨gb398, 3, none⟩ = some (.bool a0_3) := (blk_cell BK398.out 3).trans rfl; have hcz43_4 : w42.cell? ⟨gb398, 4, none⟩ = some (.int .u32 a0_4) := (blk_cell BK398.out 4).trans rfl; have hfz43_0 := blk_frozen BK398.out 0; have hfz43_1 := blk_frozen BK398.out 1; have hfz43_2 := blk_frozen BK398.out 2; have hfz43_3 := blk_frozen BK398.out 3; have hfz43_4 := blk_frozen BK398.out 4))
       have n0_ := Z (blk_drew BK398.out)
       have n1_ := Z (below_drew1 HB.out)
       clear BK398
       clear HB
       have BK398 := n0_
       have HB := n1_
       clear n0_ n1_
       refine start_ (n := 7) (S := fun w' => w'.cell? ⟨gb398, 0, none⟩ = some (.int .i64 a0_0) ∧ w'.cell? ⟨gb398, 1, none⟩ = some (.string a0_1) ∧ w'.cell? ⟨gb398, 2, none⟩ = some (.int .i32 a0_2) ∧ w'.cell? ⟨gb398, 3, none⟩ = some (.bool a0_3) ∧ w'.cell? ⟨gb398, 4, none⟩ = some (.int .u32 a0_4)) (ds := []) #[false, false, false, false, false, false, false] Z0 rfl rfl ⟨(blk_cell BK398.out 0).trans rfl, (blk_cell BK398.out 1).trans rfl, (blk_cell BK398.out 2).trans rfl, (blk_cell BK398.out 3).trans rfl, (blk_cell BK398.out 4).trans rfl⟩ (fun hHeld => ?_)
       generalize w42.drew = w44 at BK398 HB hHeld ⊢
       refine pure_ (i := 0) (N := some 46) (v := ?_) (a' := ?_) #[true, false, false, false, false, false, false] rfl rfl Z0 (fun _ _ _ h => h) (Or.inl ⟨by rfl, ?_⟩) ?_ ?_
       rotate_left
       ·intro w'
        go_simp
        with_reducible rfl
       rotate_left
       ·simp only [Act.put, List.setIfInBounds_toArray, List.set_cons_zero, List.set_cons_succ, i64_w, i32_w]
        rfl
       refine pure_ (i := 3) (N := some 49) (v := ?_) (a' := ?_) #[true, false, false, true, false, false, false] rfl rfl Z0 (fun _ _ _ h => h) (Or.inl ⟨by rfl, ?_⟩) ?_ ?_
       rotate_left
       ·intro w'
        go_simp
        with_reducible rfl
       rotate_left
       ·simp only [Act.put, List.setIfInBounds_toArray, List.set_cons_zero, List.set_cons_succ, i64_w, i32_w]
        rfl
       refine take_ (i := 1) (N := some 47) (v := ?_) (a' := ?_) #[true, true, false, true, false, false, false] rfl rfl Z0 (fun _ _ _ h => h) (Or.inl ⟨by rfl, ?_⟩) hHeld ?_ ?_
       rotate_left
       ·rintro w' ⟨s0, s1, s2, s3, s4⟩
        go_simp
        with_reducible rfl
       rotate_left
       ·simp only [Act.put, List.setIfInBounds_toArray, List.set_cons_zero, List.set_cons_succ, i64_w, i32_w]
        rfl
       refine take_ (i := 4) (N := some 50) (v := ?_) (a' := ?_) #[true, true, false, true, true, false, false] rfl rfl Z0 (fun _ _ _ h => h) (Or.inl ⟨by rfl, ?_⟩) hHeld ?_ ?_
       rotate_left
       ·rintro w' ⟨s0, s1, s2, s3, s4⟩
        go_simp
        with_reducible rfl
       rotate_left
       ·simp only [Act.put, List.setIfInBounds_toArray, List.set_cons_zero, List.set_cons_succ, i64_w, i32_w]
        rfl
       refine one_ (i := 2) (N := some 48) #[true, true, true, true, true, false, false] rfl rfl Z0 (by decide) (fun K hK => ?_)
       refine goes_ Tryd.func27 Z0 rfl #[.int .i64 a0_0] (by rfl) rfl rfl Z9 ?_
       with_reducible refine (impl_mark.calls a0_0 t404 _ A38.out).mono ?_
       rintro e w' ⟨rfl, ⟨nd, rfl⟩⟩
       refine ⟨_, rfl, ?_⟩
       refine hK.out _ _ ⟨(blk_cell BK398.out 0).trans rfl, (blk_cell BK398.out 1).trans rfl, (blk_cell BK398.out 2).trans rfl, (blk_cell BK398.out 3).trans rfl, (blk_cell BK398.out 4).trans rfl⟩ (fun hHeld => ?_)
       clear hK K
       refine norm_ (a' := ?_) ?_ ?_
       rotate_left
       ·show Act.put _ (some 48) _ = _
        simp only [Act.put, List.setIfInBounds_toArray, List.set_cons_zero, List.set_cons_succ, i64_w, i32_w]
        rfl
       refine pure_ (i := 5) (N := some 51) (v := ?_) (a' := ?_) #[true, true, true, true, true, true, false] rfl rfl Z0 (fun _ _ _ h => h) (Or.inl ⟨by rfl, ?_⟩) ?_ ?_
       rotate_left
       ·intro w'
        go_simp
        with_reducible rfl
       rotate_left
       ·simp only [Act.put, List.setIfInBounds_toArray, List.set_cons_zero, List.set_cons_succ, i64_w, i32_w]
        rfl
       refine pure_ (i := 6) (N := some 2) (v := ?_) (a' := ?_) #[true, true, true, true, true, true, true] rfl rfl Z0 (fun _ _ _ h => h) (Or.inl ⟨by rfl, ?_⟩) ?_ ?_
       rotate_left
       ·intro w'
        go_simp
        with_reducible rfl
       rotate_left
       ·simp only [Act.put, List.setIfInBounds_toArray, List.set_cons_zero, List.set_cons_succ, i64_w, i32_w]
        rfl
       refine done_ Z0 ?_
       try go_wp2
       go_ret
       exact ⟨Z68, Z67⟩
      ·rw [if_neg c39] at H
       exact absurd H (by simp)
 ·replace c3 := Bool.eq_false_iff.mpr c3
  subst c3
  have H1 : (some (⟨#[]⟩ : ByteArray)) = some r := by rw [if_neg (show ¬ (false = true) by decide)] at H; exact H
  clear H
  have H := H1
  clear H1
  obtain rfl := Option.some.inj H
  go_enter Tryd.func10, Tryd.ntmps10
  go_wp2_with (first | ((with_reducible refine gate_dst (N := 1) rfl ?_); refine box_event (by rfl) (N := 1) (by rfl) (cs := #[.int .i64 a0_0, .string a0_1, .int .i32 a0_2, .bool a0_3, .int .u32 a0_4]) (t := 27) Z3 ?_; intro gb398 hg w45 hbox hb; have BK398 := Z (hbox); have GW398 := Z ((Z79 : w.heap.size ≤ gb398)); have GE398 := Z ((Z79 : w.heap.size ≤ gb398)); replace HB := Z (below_step Z67 hb); clear hb hbox hg; have hcz46_0 : w45.cell? ⟨gb398, 0, none⟩ = some (.int .i64 a0_0) := (blk_cell BK398.out 0).trans rfl; have hcz46_1 : w45.cell? ⟨gb398, 1, none⟩ = some (.string a0_1) := (blk_cell BK398.out 1).trans rfl; have hcz46_2 : w45.cell? ⟨gb398, 2, none⟩ = some (.int .i32 a0_2) := (blk_cell BK398.out 2).trans rfl; have hcz46_3 : w45.cell? ⟨gb398, 3, none⟩ = some (.bool a0_3) := (blk_cell BK398.out 3).trans rfl; have hcz46_4 : w45.cell? ⟨gb398, 4, none⟩ = some (.int .u32 a0_4) := (blk_cell BK398.out 4).trans rfl; have hfz46_0 := blk_frozen BK398.out 0; have hfz46_1 := blk_frozen BK398.out 1; have hfz46_2 := blk_frozen BK398.out 2; have hfz46_3 := blk_frozen BK398.out 3; have hfz46_4 := blk_frozen BK398.out 4) | ((with_reducible refine gate_callee (f := 24) rfl ?_); refine goesL_ (some 5) rfl rfl Tryd.func24 Z0 rfl #[.agg #[.int .i64 a0_0, .string a0_1, .int .i32 a0_2, .bool a0_3, .int .u32 a0_4]] rfl Z9 ?_; (with_reducible refine (impl_ItemOk.calls k a0_0 a0_1 a0_2 a0_3 a0_4 false _ A2.out).mono ?_); rintro e w47 ⟨rfl, hb⟩; refine ⟨_, rfl, ?_⟩; replace BK398 := Z (blk_below (g := gb398) (o := .cells #[.int .i64 a0_0, .string a0_1, .int .i32 a0_2, .bool a0_3, .int .u32 a0_4] 27 (0, 0)) (Z15 BK398) hb); replace HB := Z (below_step Z67 hb); (try clear hb); (try clear hb2); (try clear hk); (try clear hi)))
  go_ret
  exact ⟨Z68, Z67⟩

/-! ### slices_Equal_uint32_uint32: function 69 -/
def slices_Equal_uint32_uint32.l0 : Nat → List Int → List Int → Int → Int → Option (Bool)
 | 0, _, _, _, _ => none
 | k + 1, x0, x1, x12, x13 => if x13 < x12 then (if 0 ≤ x13 then (if x13 < (x0.length : Int) then (if x13 < (x1.length : Int) then (if (rd x0 x13) = (rd x1 x13) then (slices_Equal_uint32_uint32.l0 k x0 x1 x12 (wrap64 (x13 + 1))) else (some false)) else (none)) else (none)) else (none)) else (some true)
def slices_Equal_uint32_uint32.f (k : Nat) (l0 : List Int) (l1 : List Int) : Option (Bool) := if (l0.length : Int) = (l1.length : Int) then (slices_Equal_uint32_uint32.l0 k l0 l1 (l0.length : Int) 0) else (some false)
theorem slices_Equal_uint32_uint32.mono_l : ∀ k, (∀ y0 y1 y2 y3, LeO (slices_Equal_uint32_uint32.l0 k y0 y1 y2 y3) (slices_Equal_uint32_uint32.l0 (k + 1) y0 y1 y2 y3))
 | 0 => fun _ _ _ _ r h => by simp [slices_Equal_uint32_uint32.l0] at h
 | k + 1 => by
  have ih0 := slices_Equal_uint32_uint32.mono_l k
  ·intro y0 y1 y2 y3
   unfold slices_Equal_uint32_uint32.l0
   repeat' first
   | (with_reducible exact ih0 _ _ _ _)
   | (with_reducible exact LeO.refl _)
   | (with_reducible exact LeO.none _)
   | (with_reducible refine LeO.ite ?_ ?_)
   | (with_reducible refine LeO.bind ?_ (fun _ => ?_))
   | exact ih0 _ _ _ _
   | exact LeO.none _
   | refine LeO.ite ?_ ?_
   | refine LeO.bind ?_ (fun _ => ?_)
theorem slices_Equal_uint32_uint32.mono : ∀ a0 a1 k, LeO (slices_Equal_uint32_uint32.f k a0 a1) (slices_Equal_uint32_uint32.f (k + 1) a0 a1) := by
 intro a0 a1 k
 have ih0 := slices_Equal_uint32_uint32.mono_l k
 unfold slices_Equal_uint32_uint32.f
 repeat' first
   | (with_reducible exact ih0 _ _ _ _)
   | (with_reducible exact LeO.refl _)
   | (with_reducible exact LeO.none _)
   | (with_reducible refine LeO.ite ?_ ?_)
   | (with_reducible refine LeO.bind ?_ (fun _ => ?_))
   | exact ih0 _ _ _ _
   | exact LeO.none _
   | refine LeO.ite ?_ ?_
   | refine LeO.bind ?_ (fun _ => ?_)
set_option maxHeartbeats 8000000 in
set_option maxRecDepth 100000 in
theorem slices_Equal_uint32_uint32.calls (k : Nat) (A0 : Option Addr) (c0 : Nat) (l0 : List Int) (A1 : Option Addr) (c1 : Nat) (l1 : List Int) (r : Bool) (w : World) (hr0 : Kd.C (Kd.int .u32) w A0 l0.length l0) (hc0 : l0.length ≤ c0) (hr1 : Kd.C (Kd.int .u32) w A1 l1.length l1) (hc1 : l1.length ≤ c1) (h : slices_Equal_uint32_uint32.f k l0 l1 = some r) :
  Calls Tryd.prog 69 #[.slice A0 l0.length c0, .slice A1 l1.length c1] w fun e w' => e = .returned (.bool r) ∧ Drawn0 w w' := by
 have HR0 := Aside0.mk hr0
 have HC0 := Aside0.mk hc0
 clear hr0 hc0
 have HR1 := Aside0.mk hr1
 have HC1 := Aside0.mk hc1
 clear hr1 hc1
 have H : (if (l0.length : Int) = (l1.length : Int) then (slices_Equal_uint32_uint32.l0 k l0 l1 (l0.length : Int) 0) else (some false)) = some r := h
 clear h
 by_cases c3 : (l0.length : Int) = (l1.length : Int)
 ·rw [if_pos c3] at H
  have c3b0 : ((l0.length : Int) == (l1.length : Int)) = true := beq_iff_eq.mpr c3
  have c3b1 : ((l0.length : Int) != (l1.length : Int)) = false := bne_eq_false_iff_eq.mpr c3
  have c3b2 : (l0.length == l1.length) = true := Z22
  clear c3
  have H' := Aside0.mk H
  clear H
  go_enter Tryd.func69, Tryd.ntmps69
  go_wp2
  repeat (go_quiet (fail); try go_wp2)
  go_loopg [13] k (fun kq v13 w' => ∃ (x13_1 : Int), v13 = .int .i64 x13_1 ∧ Aside0 (slices_Equal_uint32_uint32.l0 kq l0 l1 (l0.length : Int) x13_1 = some r) ∧ Aside0 (kq ≤ k) ∧ Drawn0 w w')
  case atStart => exact ⟨(0), Z7, H', ⟨Nat.le_refl _⟩, Z8⟩
  case round =>
   clear H'
   try clear c1
   try clear p2
   try clear c3
   try clear c3b0
   try clear c3b1
   try clear c3b2
   obtain ⟨x13_1, rfl, HA, HK1, ⟨m1, rfl⟩⟩ := hrel
   cases gk with
   | zero => exact absurd HA.out (by simp [slices_Equal_uint32_uint32.l0])
   | succ k1 =>
    have H := HA.out
    clear HA
    simp only [slices_Equal_uint32_uint32.l0] at H
    by_cases c4 : x13_1 < (l0.length : Int)
    ·rw [if_pos c4] at H
     have c4b0 : decide (x13_1 < (l0.length : Int)) = true := decide_eq_true c4
     clear c4
     by_cases c5 : 0 ≤ x13_1
     ·rw [if_pos c5] at H
      have c5b0 : decide (0 ≤ x13_1) = true := decide_eq_true c5
      clear c5
      by_cases c6 : x13_1 < (l0.length : Int)
      ·rw [if_pos c6] at H
       have c6b0 : decide (x13_1 < (l0.length : Int)) = true := decide_eq_true c6
       clear c6
       by_cases c7 : x13_1 < (l1.length : Int)
       ·rw [if_pos c7] at H
        have c7b0 : decide (x13_1 < (l1.length : Int)) = true := decide_eq_true c7
        clear c7
        by_cases c8 : (rd l0 x13_1) = (rd l1 x13_1)
        ·rw [if_pos c8] at H
         have c8b0 : ((rd l0 x13_1) == (rd l1 x13_1)) = true := beq_iff_eq.mpr c8
         have c8b1 : ((rd l0 x13_1) != (rd l1 x13_1)) = false := bne_eq_false_iff_eq.mpr c8
         clear c8
         have H' := Aside0.mk H
         clear H
         have p405 : 0 ≤ (x13_1 : Int) := of_decide_eq_true Z10
         have q405 : x13_1 < (l0.length : Int) := of_decide_eq_true Z10
         obtain ⟨ad405, e405, hx405_0⟩ := Kd.at_int HR0.out x13_1 p405 q405
         cases e405
         replace p405 := eq_true p405
         replace q405 := eq_true q405
         have p406 : 0 ≤ (x13_1 : Int) := of_decide_eq_true Z10
         have q406 : x13_1 < (l1.length : Int) := of_decide_eq_true Z10
         obtain ⟨ad406, e406, hx406_0⟩ := Kd.at_int HR1.out x13_1 p406 q406
         cases e406
         replace p406 := eq_true p406
         replace q406 := eq_true q406
         go_wp2
         repeat (go_quiet (fail); try go_wp2)
         go_roundg k1
         case measure => have := HK1.out; omega
         case rel => exact ⟨(wrap64 (x13_1 + 1)), Z7, H', ⟨Z11⟩, Z8⟩
        ·rw [if_neg c8] at H
         have c8b0 : ((rd l0 x13_1) == (rd l1 x13_1)) = false := beq_eq_false_iff_ne.mpr c8
         have c8b1 : ((rd l0 x13_1) != (rd l1 x13_1)) = true := bne_iff_ne.mpr c8
         obtain rfl := Option.some.inj H
         have p405 : 0 ≤ (x13_1 : Int) := of_decide_eq_true Z10
         have q405 : x13_1 < (l0.length : Int) := of_decide_eq_true Z10
         obtain ⟨ad405, e405, hx405_0⟩ := Kd.at_int HR0.out x13_1 p405 q405
         cases e405
         replace p405 := eq_true p405
         replace q405 := eq_true q405
         have p406 : 0 ≤ (x13_1 : Int) := of_decide_eq_true Z10
         have q406 : x13_1 < (l1.length : Int) := of_decide_eq_true Z10
         obtain ⟨ad406, e406, hx406_0⟩ := Kd.at_int HR1.out x13_1 p406 q406
         cases e406
         replace p406 := eq_true p406
         replace q406 := eq_true q406
         go_wp2
         repeat (go_quiet (fail); try go_wp2)
         go_ret
         exact ⟨Z7, Z8⟩
       ·rw [if_neg c7] at H
        exact absurd H (by simp)
      ·rw [if_neg c6] at H
       exact absurd H (by simp)
     ·rw [if_neg c5] at H
      exact absurd H (by simp)
    ·rw [if_neg c4] at H
     have c4b0 : decide (x13_1 < (l0.length : Int)) = false := decide_eq_false c4
     clear c4
     obtain rfl := Option.some.inj H
     go_wp2
     repeat (go_quiet (fail); try go_wp2)
     go_ret
     exact ⟨Z7, Z8⟩
 ·rw [if_neg c3] at H
  have c3b0 : ((l0.length : Int) == (l1.length : Int)) = false := beq_eq_false_iff_ne.mpr c3
  have c3b1 : ((l0.length : Int) != (l1.length : Int)) = true := bne_iff_ne.mpr c3
  have c3b2 : (l0.length == l1.length) = false := Z22
  obtain rfl := Option.some.inj H
  go_enter Tryd.func69, Tryd.ntmps69
  go_wp2
  repeat (go_quiet (fail); try go_wp2)
  go_ret
  exact ⟨Z7, Z8⟩

/-! ### impl_Decode: function 96 -/
def impl_Decode.l0 : Nat → Int → Int → Int → Option (Int × Int)
 | 0, _, _, _ => none
 | k + 1, x0, x1, x11 => if x11 < 48 then ((impl_WidthOf.f x11).bind fun t408 => (if t408 ≤ x1 then (if 0 ≤ (wrap64 (x1 - t408)) then (if 0 ≤ t408 then ((impl_BitsOf.f x11).bind fun t409 => (if (Go.bits .and .u32 (shr .u32 x0 (wrap64 (x1 - t408))) (((shl .u32 1 t408) - 1) % 4294967296)) = t409 then (some (x11, t408)) else (impl_Decode.l0 k x0 x1 (wrap64 (x11 + 1))))) else (none)) else (none)) else (impl_Decode.l0 k x0 x1 (wrap64 (x11 + 1))))) else (some ((-1), 0))
def impl_Decode.f (k : Nat) (a0 : Int) (a1 : Int) : Option (Int × Int) := (impl_within.f a1 1 32).bind fun t407 => (if t407 = true then (impl_Decode.l0 k a0 a1 0) else (some ((-1), 0)))
theorem impl_Decode.mono_l : ∀ k, (∀ y0 y1 y2, LeO (impl_Decode.l0 k y0 y1 y2) (impl_Decode.l0 (k + 1) y0 y1 y2))
 | 0 => fun _ _ _ r h => by simp [impl_Decode.l0] at h
 | k + 1 => by
  have ih0 := impl_Decode.mono_l k
  ·intro y0 y1 y2
   unfold impl_Decode.l0
   repeat' first
   | (with_reducible exact ih0 _ _ _)
   | (with_reducible exact LeO.refl _)
   | (with_reducible exact LeO.none _)
   | (with_reducible refine LeO.ite ?_ ?_)
   | (with_reducible refine LeO.bind ?_ (fun _ => ?_))
   | exact ih0 _ _ _
   | exact LeO.none _
   | refine LeO.ite ?_ ?_
   | refine LeO.bind ?_ (fun _ => ?_)
theorem impl_Decode.mono : ∀ a0 a1 k, LeO (impl_Decode.f k a0 a1) (impl_Decode.f (k + 1) a0 a1) := by
 intro a0 a1 k
 have ih0 := impl_Decode.mono_l k
 unfold impl_Decode.f
 repeat' first
   | (with_reducible exact ih0 _ _ _)
   | (with_reducible exact LeO.refl _)
   | (with_reducible exact LeO.none _)
   | (with_reducible refine LeO.ite ?_ ?_)
   | (with_reducible refine LeO.bind ?_ (fun _ => ?_))
   | exact ih0 _ _ _
   | exact LeO.none _
   | refine LeO.ite ?_ ?_
   | refine LeO.bind ?_ (fun _ => ?_)
set_option maxHeartbeats 8000000 in
set_option maxRecDepth 100000 in
theorem impl_Decode.calls (k : Nat) (a0 : Int) (a1 : Int) (r1 : Int) (r2 : Int) (w : World) (h : impl_Decode.f k a0 a1 = some (r1, r2)) :
  Calls Tryd.prog 96 #[.int .u32 a0, .int .i64 a1] w fun e w' => e = .returned (.tuple #[.int .i64 r1, .int .i64 r2]) ∧ Drawn0 w w' := by
 have H : ((impl_within.f a1 1 32).bind fun t407 => (if t407 = true then (impl_Decode.l0 k a0 a1 0) else (some ((-1), 0)))) = some (r1, r2) := h
 clear h
 replace H := Option.bind_eq_some_iff.mp H
 obtain ⟨t407, A30, H⟩ := H
 replace H : (if t407 = true then (impl_Decode.l0 k a0 a1 0) else (some ((-1), 0))) = some (r1, r2) := H
 have A3 := Aside0.mk A30
 clear A30
 by_cases c4 : t407 = true
 ·subst c4
  have H1 : (impl_Decode.l0 k a0 a1 0) = some (r1, r2) := Z2
  clear H
  have H := H1
  clear H1
  have H' := Aside0.mk H
  clear H
  go_enter Tryd.func96, Tryd.ntmps96
  go_wp2_with (first | (go_at_call 106; (with_reducible refine (impl_within.calls a1 1 32 true _ A3.out).mono ?_); rintro e w' ⟨rfl, ⟨nd, rfl⟩⟩; (try first | exact ⟨rfl, _, World.drewN_drewN _ _ _⟩ | exact ⟨rfl, _, Eq.trans (World.drewN_drewN _ _ _) (congrArg (World.drewN _) (Nat.add_assoc _ _ _))⟩)))
  repeat (go_quiet (first | (go_at_call 106; (with_reducible refine (impl_within.calls a1 1 32 true _ A3.out).mono ?_); rintro e w' ⟨rfl, ⟨nd, rfl⟩⟩; (try first | exact ⟨rfl, _, World.drewN_drewN _ _ _⟩ | exact ⟨rfl, _, Eq.trans (World.drewN_drewN _ _ _) (congrArg (World.drewN _) (Nat.add_assoc _ _ _))⟩))); try go_wp2_with (first | (go_at_call 106; (with_reducible refine (impl_within.calls a1 1 32 true _ A3.out).mono ?_); rintro e w' ⟨rfl, ⟨nd, rfl⟩⟩; (try first | exact ⟨rfl, _, World.drewN_drewN _ _ _⟩ | exact ⟨rfl, _, Eq.trans (World.drewN_drewN _ _ _) (congrArg (World.drewN _) (Nat.add_assoc _ _ _))⟩))))
  go_loopg [11] k (fun kq v11 w' => ∃ (x11_1 : Int), v11 = .int .i64 x11_1 ∧ Aside0 (impl_Decode.l0 kq a0 a1 x11_1 = some (r1, r2)) ∧ Aside0 (kq ≤ k) ∧ Drawn0 w w')
  case atStart => exact ⟨(0), Z7, H', ⟨Nat.le_refl _⟩, Z8⟩
  case round =>
   clear H'
   try clear p2
   try clear c4
   obtain ⟨x11_1, rfl, HA, HK1, ⟨m1, rfl⟩⟩ := hrel
   cases gk with
   | zero => exact absurd HA.out (by simp [impl_Decode.l0])
   | succ k1 =>
    have H := HA.out
    clear HA
    simp only [impl_Decode.l0] at H
    by_cases c5 : x11_1 < 48
    ·rw [if_pos c5] at H
     have c5b0 : decide (x11_1 < 48) = true := decide_eq_true c5
     clear c5
     replace H := Option.bind_eq_some_iff.mp H
     obtain ⟨t408, A60, H⟩ := H
     replace H : (if t408 ≤ a1 then (if 0 ≤ (wrap64 (a1 - t408)) then (if 0 ≤ t408 then ((impl_BitsOf.f x11_1).bind fun t409 => (if (Go.bits .and .u32 (shr .u32 a0 (wrap64 (a1 - t408))) (((shl .u32 1 t408) - 1) % 4294967296)) = t409 then (some (x11_1, t408)) else (impl_Decode.l0 k1 a0 a1 (wrap64 (x11_1 + 1))))) else (none)) else (none)) else (impl_Decode.l0 k1 a0 a1 (wrap64 (x11_1 + 1)))) = some (r1, r2) := H
     have A6 := Aside0.mk A60
     clear A60
     by_cases c7 : t408 ≤ a1
     ·rw [if_pos c7] at H
      have c7b0 : decide (t408 ≤ a1) = true := decide_eq_true c7
      clear c7
      obtain ⟨ji8, hji8⟩ : ∃ j_ : Int, (wrap64 (a1 - t408)) = j_ := ⟨_, rfl⟩
      replace H : (if 0 ≤ (ji8) then (if 0 ≤ t408 then ((impl_BitsOf.f x11_1).bind fun t409 => (if (Go.bits .and .u32 (shr .u32 a0 (ji8)) (((shl .u32 1 t408) - 1) % 4294967296)) = t409 then (some (x11_1, t408)) else (impl_Decode.l0 k1 a0 a1 (wrap64 (x11_1 + 1))))) else (none)) else (none)) = some (r1, r2) := Z19
      (try rw [hji8] at A6)
      have hji8w : (IntKind.i64.wrap (a1 - t408)) = ji8 := (i64_w _).trans hji8
      by_cases c9 : 0 ≤ (ji8)
      ·rw [if_pos c9] at H
       have c9b0 := eq_true c9
       have c9b1 : decide (0 ≤ (ji8)) = true := decide_eq_true c9
       clear c9
       obtain ⟨ji10, hji10⟩ : ∃ j_ : Int, (shr .u32 a0 (ji8)) = j_ := ⟨_, rfl⟩
       replace H : (if 0 ≤ t408 then ((impl_BitsOf.f x11_1).bind fun t409 => (if (Go.bits .and .u32 (ji10) (((shl .u32 1 t408) - 1) % 4294967296)) = t409 then (some (x11_1, t408)) else (impl_Decode.l0 k1 a0 a1 (wrap64 (x11_1 + 1))))) else (none)) = some (r1, r2) := Z20
       (try rw [hji10] at A6)
       have hji10_ : (a0 / 2 ^ min (ji8).toNat 32) = ji10 := hji10
       have hji10z : (ji8) ≤ 32 → (a0 / 2 ^ (ji8).toNat) = ji10 := shr_small hji10
       by_cases c11 : 0 ≤ t408
       ·rw [if_pos c11] at H
        have c11b0 := eq_true c11
        have c11b1 : decide (0 ≤ t408) = true := decide_eq_true c11
        clear c11
        obtain ⟨ji12, hji12⟩ : ∃ j_ : Int, (shl .u32 1 t408) = j_ := ⟨_, rfl⟩
        replace H : ((impl_BitsOf.f x11_1).bind fun t409 => (if (Go.bits .and .u32 (ji10) (((ji12) - 1) % 4294967296)) = t409 then (some (x11_1, t408)) else (impl_Decode.l0 k1 a0 a1 (wrap64 (x11_1 + 1))))) = some (r1, r2) := Z18
        (try rw [hji12] at A6)
        have hji12_ : (IntKind.u32.wrap (1 * 2 ^ min t408.toNat 32)) = ji12 := hji12
        have hji12z : t408 ≤ 32 → (IntKind.u32.wrap (1 * 2 ^ t408.toNat)) = ji12 := shl_small hji12
        have hji12u : (IntKind.u32.wrap (2 ^ min t408.toNat 32)) = ji12 := by have h_ := hji12_; rw [Int.one_mul] at h_; exact h_
        have hji12v : t408 ≤ 32 → (IntKind.u32.wrap (2 ^ t408.toNat)) = ji12 := fun hle_ => by have h_ := hji12z hle_; rw [Int.one_mul] at h_; exact h_
        replace H := Option.bind_eq_some_iff.mp H
        obtain ⟨t409, A130, H⟩ := H
        replace H : (if (Go.bits .and .u32 (ji10) (((ji12) - 1) % 4294967296)) = t409 then (some (x11_1, t408)) else (impl_Decode.l0 k1 a0 a1 (wrap64 (x11_1 + 1)))) = some (r1, r2) := H
        have A13 := Aside0.mk A130
        clear A130
        by_cases c14 : (Go.bits .and .u32 (ji10) (((ji12) - 1) % 4294967296)) = t409
        ·rw [if_pos c14] at H
         have c14b0 : ((Go.bits .and .u32 (ji10) (((ji12) - 1) % 4294967296)) == t409) = true := beq_iff_eq.mpr c14
         have c14b1 : ((Go.bits .and .u32 (ji10) (((ji12) - 1) % 4294967296)) != t409) = false := bne_eq_false_iff_eq.mpr c14
         clear c14
         simp only [Option.some.injEq, Prod.mk.injEq] at H
         obtain ⟨rfl, rfl⟩ := H
         go_wp2_with (first | (go_at_call 107; (with_reducible refine (impl_WidthOf.calls x11_1 t408 _ A6.out).mono ?_); rintro e w' ⟨rfl, ⟨nd, rfl⟩⟩; (try first | exact ⟨rfl, _, World.drewN_drewN _ _ _⟩ | exact ⟨rfl, _, Eq.trans (World.drewN_drewN _ _ _) (congrArg (World.drewN _) (Nat.add_assoc _ _ _))⟩)) | (go_at_call 108; (with_reducible refine (impl_BitsOf.calls x11_1 t409 _ A13.out).mono ?_); rintro e w' ⟨rfl, ⟨nd, rfl⟩⟩; (try first | exact ⟨rfl, _, World.drewN_drewN _ _ _⟩ | exact ⟨rfl, _, Eq.trans (World.drewN_drewN _ _ _) (congrArg (World.drewN _) (Nat.add_assoc _ _ _))⟩)))
         repeat (go_quiet (first | (go_at_call 107; (with_reducible refine (impl_WidthOf.calls x11_1 t408 _ A6.out).mono ?_); rintro e w' ⟨rfl, ⟨nd, rfl⟩⟩; (try first | exact ⟨rfl, _, World.drewN_drewN _ _ _⟩ | exact ⟨rfl, _, Eq.trans (World.drewN_drewN _ _ _) (congrArg (World.drewN _) (Nat.add_assoc _ _ _))⟩)) | (go_at_call 108; (with_reducible refine (impl_BitsOf.calls x11_1 t409 _ A13.out).mono ?_); rintro e w' ⟨rfl, ⟨nd, rfl⟩⟩; (try first | exact ⟨rfl, _, World.drewN_drewN _ _ _⟩ | exact ⟨rfl, _, Eq.trans (World.drewN_drewN _ _ _) (congrArg (World.drewN _) (Nat.add_assoc _ _ _))⟩))); try go_wp2_with (first | (go_at_call 107; (with_reducible refine (impl_WidthOf.calls x11_1 t408 _ A6.out).mono ?_); rintro e w' ⟨rfl, ⟨nd, rfl⟩⟩; (try first | exact ⟨rfl, _, World.drewN_drewN _ _ _⟩ | exact ⟨rfl, _, Eq.trans (World.drewN_drewN _ _ _) (congrArg (World.drewN _) (Nat.add_assoc _ _ _))⟩)) | (go_at_call 108; (with_reducible refine (impl_BitsOf.calls x11_1 t409 _ A13.out).mono ?_); rintro e w' ⟨rfl, ⟨nd, rfl⟩⟩; (try first | exact ⟨rfl, _, World.drewN_drewN _ _ _⟩ | exact ⟨rfl, _, Eq.trans (World.drewN_drewN _ _ _) (congrArg (World.drewN _) (Nat.add_assoc _ _ _))⟩))))
         go_ret2
         exact ⟨by first | rfl | (simp; done) | (simp only [← hji8, ← hji10, ← hji12] <;> (first | rfl | simp)) | (simp [*]; done), Z8⟩
        ·rw [if_neg c14] at H
         have c14b0 : ((Go.bits .and .u32 (ji10) (((ji12) - 1) % 4294967296)) == t409) = false := beq_eq_false_iff_ne.mpr c14
         have c14b1 : ((Go.bits .and .u32 (ji10) (((ji12) - 1) % 4294967296)) != t409) = true := bne_iff_ne.mpr c14
         have H' := Aside0.mk H
         clear H
         go_wp2_with (first | (go_at_call 107; (with_reducible refine (impl_WidthOf.calls x11_1 t408 _ A6.out).mono ?_); rintro e w' ⟨rfl, ⟨nd, rfl⟩⟩; (try first | exact ⟨rfl, _, World.drewN_drewN _ _ _⟩ | exact ⟨rfl, _, Eq.trans (World.drewN_drewN _ _ _) (congrArg (World.drewN _) (Nat.add_assoc _ _ _))⟩)) | (go_at_call 108; (with_reducible refine (impl_BitsOf.calls x11_1 t409 _ A13.out).mono ?_); rintro e w' ⟨rfl, ⟨nd, rfl⟩⟩; (try first | exact ⟨rfl, _, World.drewN_drewN _ _ _⟩ | exact ⟨rfl, _, Eq.trans (World.drewN_drewN _ _ _) (congrArg (World.drewN _) (Nat.add_assoc _ _ _))⟩)))
         repeat (go_quiet (first | (go_at_call 107; (with_reducible refine (impl_WidthOf.calls x11_1 t408 _ A6.out).mono ?_); rintro e w' ⟨rfl, ⟨nd, rfl⟩⟩; (try first | exact ⟨rfl, _, World.drewN_drewN _ _ _⟩ | exact ⟨rfl, _, Eq.trans (World.drewN_drewN _ _ _) (congrArg (World.drewN _) (Nat.add_assoc _ _ _))⟩)) | (go_at_call 108; (with_reducible refine (impl_BitsOf.calls x11_1 t409 _ A13.out).mono ?_); rintro e w' ⟨rfl, ⟨nd, rfl⟩⟩; (try first | exact ⟨rfl, _, World.drewN_drewN _ _ _⟩ | exact ⟨rfl, _, Eq.trans (World.drewN_drewN _ _ _) (congrArg (World.drewN _) (Nat.add_assoc _ _ _))⟩))); try go_wp2_with (first | (go_at_call 107; (with_reducible refine (impl_WidthOf.calls x11_1 t408 _ A6.out).mono ?_); rintro e w' ⟨rfl, ⟨nd, rfl⟩⟩; (try first | exact ⟨rfl, _, World.drewN_drewN _ _ _⟩ | exact ⟨rfl, _, Eq.trans (World.drewN_drewN _ _ _) (congrArg (World.drewN _) (Nat.add_assoc _ _ _))⟩)) | (go_at_call 108; (with_reducible refine (impl_BitsOf.calls x11_1 t409 _ A13.out).mono ?_); rintro e w' ⟨rfl, ⟨nd, rfl⟩⟩; (try first | exact ⟨rfl, _, World.drewN_drewN _ _ _⟩ | exact ⟨rfl, _, Eq.trans (World.drewN_drewN _ _ _) (congrArg (World.drewN _) (Nat.add_assoc _ _ _))⟩))))
         go_roundg k1
         case measure => have := HK1.out; omega
         case rel => exact ⟨(wrap64 (x11_1 + 1)), Z7, H', ⟨Z11⟩, Z8⟩
       ·rw [if_neg c11] at H
        exact absurd H (by simp)
      ·rw [if_neg c9] at H
       exact absurd H (by simp)
     ·rw [if_neg c7] at H
      have c7b0 : decide (t408 ≤ a1) = false := decide_eq_false c7
      clear c7
      have H' := Aside0.mk H
      clear H
      go_wp2_with (first | (go_at_call 107; (with_reducible refine (impl_WidthOf.calls x11_1 t408 _ A6.out).mono ?_); rintro e w' ⟨rfl, ⟨nd, rfl⟩⟩; (try first | exact ⟨rfl, _, World.drewN_drewN _ _ _⟩ | exact ⟨rfl, _, Eq.trans (World.drewN_drewN _ _ _) (congrArg (World.drewN _) (Nat.add_assoc _ _ _))⟩)))
      repeat (go_quiet (first | (go_at_call 107; (with_reducible refine (impl_WidthOf.calls x11_1 t408 _ A6.out).mono ?_); rintro e w' ⟨rfl, ⟨nd, rfl⟩⟩; (try first | exact ⟨rfl, _, World.drewN_drewN _ _ _⟩ | exact ⟨rfl, _, Eq.trans (World.drewN_drewN _ _ _) (congrArg (World.drewN _) (Nat.add_assoc _ _ _))⟩))); try go_wp2_with (first | (go_at_call 107; (with_reducible refine (impl_WidthOf.calls x11_1 t408 _ A6.out).mono ?_); rintro e w' ⟨rfl, ⟨nd, rfl⟩⟩; (try first | exact ⟨rfl, _, World.drewN_drewN _ _ _⟩ | exact ⟨rfl, _, Eq.trans (World.drewN_drewN _ _ _) (congrArg (World.drewN _) (Nat.add_assoc _ _ _))⟩))))
      go_roundg k1
      case measure => have := HK1.out; omega
      case rel => exact ⟨(wrap64 (x11_1 + 1)), Z7, H', ⟨Z11⟩, Z8⟩
    ·rw [if_neg c5] at H
     have c5b0 : decide (x11_1 < 48) = false := decide_eq_false c5
     clear c5
     simp only [Option.some.injEq, Prod.mk.injEq] at H
     obtain ⟨rfl, rfl⟩ := H
     go_wp2
     repeat (go_quiet (fail); try go_wp2)
     go_ret2
     exact ⟨Z7, Z8⟩
 ·replace c4 := Bool.eq_false_iff.mpr c4
  subst c4
  have H1 : (some ((-1), 0)) = some (r1, r2) := by rw [if_neg (show ¬ (false = true) by decide)] at H; exact H
  clear H
  have H := H1
  clear H1
  simp only [Option.some.injEq, Prod.mk.injEq] at H
  obtain ⟨rfl, rfl⟩ := H
  go_enter Tryd.func96, Tryd.ntmps96
  go_wp2_with (first | (go_at_call 106; (with_reducible refine (impl_within.calls a1 1 32 false _ A3.out).mono ?_); rintro e w' ⟨rfl, ⟨nd, rfl⟩⟩; (try first | exact ⟨rfl, _, World.drewN_drewN _ _ _⟩ | exact ⟨rfl, _, Eq.trans (World.drewN_drewN _ _ _) (congrArg (World.drewN _) (Nat.add_assoc _ _ _))⟩)))
  repeat (go_quiet (first | (go_at_call 106; (with_reducible refine (impl_within.calls a1 1 32 false _ A3.out).mono ?_); rintro e w' ⟨rfl, ⟨nd, rfl⟩⟩; (try first | exact ⟨rfl, _, World.drewN_drewN _ _ _⟩ | exact ⟨rfl, _, Eq.trans (World.drewN_drewN _ _ _) (congrArg (World.drewN _) (Nat.add_assoc _ _ _))⟩))); try go_wp2_with (first | (go_at_call 106; (with_reducible refine (impl_within.calls a1 1 32 false _ A3.out).mono ?_); rintro e w' ⟨rfl, ⟨nd, rfl⟩⟩; (try first | exact ⟨rfl, _, World.drewN_drewN _ _ _⟩ | exact ⟨rfl, _, Eq.trans (World.drewN_drewN _ _ _) (congrArg (World.drewN _) (Nat.add_assoc _ _ _))⟩))))
  go_ret2
  exact ⟨Z7, Z8⟩

/-! ### impl_LetterAt: function 97 -/
def impl_LetterAt.f (a0 : Int) : Option (Int) := (impl_within.f a0 0 47).bind fun t410 => (if t410 = true then ((impl_letters.f).bind fun t411 => (if 0 ≤ a0 then (if a0 < (t411.size : Int) then (some (bt t411 a0)) else (none)) else (none))) else (some 0))
set_option maxHeartbeats 8000000 in
set_option maxRecDepth 100000 in
theorem impl_LetterAt.calls (a0 : Int) (r : Int) (w : World) (h : impl_LetterAt.f a0 = some r) :
  Calls Tryd.prog 97 #[.int .i64 a0] w fun e w' => e = .returned (.int .u8 r) ∧ Drawn0 w w' := by
 have H : ((impl_within.f a0 0 47).bind fun t410 => (if t410 = true then ((impl_letters.f).bind fun t411 => (if 0 ≤ a0 then (if a0 < (t411.size : Int) then (some (bt t411 a0)) else (none)) else (none))) else (some 0))) = some r := h
 clear h
 replace H := Option.bind_eq_some_iff.mp H
 obtain ⟨t410, A20, H⟩ := H
 replace H : (if t410 = true then ((impl_letters.f).bind fun t411 => (if 0 ≤ a0 then (if a0 < (t411.size : Int) then (some (bt t411 a0)) else (none)) else (none))) else (some 0)) = some r := H
 have A2 := Aside0.mk A20
 clear A20
 by_cases c3 : t410 = true
 ·subst c3
  have H1 : ((impl_letters.f).bind fun t411 => (if 0 ≤ a0 then (if a0 < (t411.size : Int) then (some (bt t411 a0)) else (none)) else (none))) = some r := Z2
  clear H
  have H := H1
  clear H1
  replace H := Option.bind_eq_some_iff.mp H
  obtain ⟨t411, A40, H⟩ := H
  replace H : (if 0 ≤ a0 then (if a0 < (t411.size : Int) then (some (bt t411 a0)) else (none)) else (none)) = some r := H
  have A4 := Aside0.mk A40
  clear A40
  by_cases c5 : 0 ≤ a0
  ·rw [if_pos c5] at H
   have c5b0 : decide (0 ≤ a0) = true := decide_eq_true c5
   clear c5
   by_cases c6 : a0 < (t411.size : Int)
   ·rw [if_pos c6] at H
    have c6b0 : decide (a0 < (t411.size : Int)) = true := decide_eq_true c6
    clear c6
    obtain rfl := Option.some.inj H
    go_enter Tryd.func97, Tryd.ntmps97
    go_wp2_with (first | ((with_reducible refine gate_callee (f := 106) rfl ?_); refine goesL_ (some 4) rfl rfl Tryd.func106 Z0 rfl #[.int .i64 a0, .int .i64 0, .int .i64 47] rfl Z9 ?_; (with_reducible refine (impl_within.calls a0 0 47 true _ A2.out).mono ?_); rintro e w' ⟨rfl, ⟨nd, rfl⟩⟩; refine ⟨_, rfl, ?_⟩) | ((with_reducible refine gate_callee (f := 119) rfl ?_); refine goesL_ (some 6) rfl rfl Tryd.func119 Z0 rfl #[] rfl Z9 ?_; (with_reducible refine (impl_letters.calls  t411 _ A4.out).mono ?_); rintro e w' ⟨rfl, ⟨nd, rfl⟩⟩; refine ⟨_, rfl, ?_⟩; have p7 : 0 ≤ (a0 : Int) := of_decide_eq_true Z10; have q7 : a0 < (t411.size : Int) := of_decide_eq_true Z10; have hx7 := bt_at t411 a0; replace p7 := eq_true p7; replace q7 := eq_true q7))
    go_ret
    exact ⟨Z7, Z8⟩
   ·rw [if_neg c6] at H
    exact absurd H (by simp)
  ·rw [if_neg c5] at H
   exact absurd H (by simp)
 ·replace c3 := Bool.eq_false_iff.mpr c3
  subst c3
  have H1 : (some 0) = some r := by rw [if_neg (show ¬ (false = true) by decide)] at H; exact H
  clear H
  have H := H1
  clear H1
  obtain rfl := Option.some.inj H
  go_enter Tryd.func97, Tryd.ntmps97
  go_wp2_with (first | ((with_reducible refine gate_callee (f := 106) rfl ?_); refine goesL_ (some 4) rfl rfl Tryd.func106 Z0 rfl #[.int .i64 a0, .int .i64 0, .int .i64 47] rfl Z9 ?_; (with_reducible refine (impl_within.calls a0 0 47 false _ A2.out).mono ?_); rintro e w' ⟨rfl, ⟨nd, rfl⟩⟩; refine ⟨_, rfl, ?_⟩))
  go_ret
  exact ⟨Z7, Z8⟩

/-! ### impl_UnpackOne: function 71 -/
def impl_UnpackOne.l0 : Nat → Int → List Int → Int → Option (ByteArray)
 | 0, _, _, _ => none
 | k + 1, x0, x3, x4 => if 0 ≤ x4 then (if (Go.bits .and .u32 x0 (((shl .u32 1 x4) - 1) % 4294967296)) = 0 then (some (strOfNums x3)) else ((impl_Decode.f k x0 x4).bind fun bt415 => (if bt415.1 < 1 then (some (strOfNums x3)) else ((impl_LetterAt.f bt415.1).bind fun t417 => (if x3.length < 140737488355328 then (impl_UnpackOne.l0 k x0 (x3 ++ [t417]) (wrap64 (x4 - bt415.2))) else (none)))))) else (none)
def impl_UnpackOne.f (k : Nat) (a0 : Int) : Option (ByteArray) := if a0 ≥ 268435456 then (some (⟨#[]⟩ : ByteArray)) else (impl_UnpackOne.l0 k a0 (([] : List Int)) 28)
theorem impl_UnpackOne.mono_l : ∀ k, (∀ y0 y1 y2, LeO (impl_UnpackOne.l0 k y0 y1 y2) (impl_UnpackOne.l0 (k + 1) y0 y1 y2))
 | 0 => fun _ _ _ r h => by simp [impl_UnpackOne.l0] at h
 | k + 1 => by
  have ih0 := impl_UnpackOne.mono_l k
  ·intro y0 y1 y2
   unfold impl_UnpackOne.l0
   repeat' first
   | (with_reducible exact ih0 _ _ _)
   | (with_reducible exact impl_Decode.mono _ _ _)
   | (with_reducible exact LeO.refl _)
   | (with_reducible exact LeO.none _)
   | (with_reducible refine LeO.ite ?_ ?_)
   | (with_reducible refine LeO.bind ?_ (fun _ => ?_))
   | exact ih0 _ _ _
   | exact impl_Decode.mono _ _ _
   | exact LeO.none _
   | refine LeO.ite ?_ ?_
   | refine LeO.bind ?_ (fun _ => ?_)
theorem impl_UnpackOne.mono : ∀ a0 k, LeO (impl_UnpackOne.f k a0) (impl_UnpackOne.f (k + 1) a0) := by
 intro a0 k
 have ih0 := impl_UnpackOne.mono_l k
 unfold impl_UnpackOne.f
 repeat' first
   | (with_reducible exact ih0 _ _ _)
   | (with_reducible exact impl_Decode.mono _ _ _)
   | (with_reducible exact LeO.refl _)
   | (with_reducible exact LeO.none _)
   | (with_reducible refine LeO.ite ?_ ?_)
   | (with_reducible refine LeO.bind ?_ (fun _ => ?_))
   | exact ih0 _ _ _
   | exact impl_Decode.mono _ _ _
   | exact LeO.none _
   | refine LeO.ite ?_ ?_
   | refine LeO.bind ?_ (fun _ => ?_)
set_option maxHeartbeats 8000000 in
set_option maxRecDepth 100000 in
theorem impl_UnpackOne.calls (k : Nat) (a0 : Int) (r : ByteArray) (w : World) (h : impl_UnpackOne.f k a0 = some r) :
  Calls Tryd.prog 71 #[.int .u32 a0] w fun e w' => e = .returned (.string r) ∧ Below w.heap.size w w' := by
 have HB := Z (Below.refl w.heap.size w)
 have H : (if a0 ≥ 268435456 then (some (⟨#[]⟩ : ByteArray)) else (impl_UnpackOne.l0 k a0 (([] : List Int)) 28)) = some r := h
 clear h
 by_cases c2 : a0 ≥ 268435456
 ·rw [if_pos c2] at H
  have c2b0 : decide (268435456 ≤ a0) = true := decide_eq_true c2
  clear c2
  obtain rfl := Option.some.inj H
  go_enter Tryd.func71, Tryd.ntmps71
  go_wp2
  go_ret
  exact ⟨Z68, Z67⟩
 ·rw [if_neg c2] at H
  have c2b0 : decide (268435456 ≤ a0) = false := decide_eq_false c2
  clear c2
  obtain ⟨y412, hy412⟩ : ∃ y_ : List Int, y_ = (([] : List Int)) := ⟨_, rfl⟩
  replace H : (impl_UnpackOne.l0 k a0 y412 28) = some r := by first | (rw [hy412]; with_reducible exact H) | (have H2_ := (Option.bind_some _ _).symm.trans H; rw [hy412]; with_reducible exact H2_) | (have H2_ := (Option.bind_some _ _).symm.trans H; with_reducible exact H2_) | with_reducible exact H | (rw [hy412]; exact H) | exact H
  have Ny412 := Aside0.mk hy412
  clear hy412
  have H' := Aside0.mk H
  clear H
  go_enter Tryd.func71, Tryd.ntmps71
  go_wp2_with (first | ((with_reducible refine gate_dst (N := 9) rfl ?_); refine Kd.R_lit (Kd.int .u8) _ 5 (by rfl) (N := 9) (by rfl) (xs := ([] : List Int)) (inner := []) (ok := fun _ => True) (okp := fun _ => True) Z3 (Reps.none _ _) (fun _ hk => hk) trivial (Below.refl _ _) (Nat.le_refl _) (by simp) ?_; intro v413 w3 ho4 hb hg_ hnew_; clear hg_ hnew_; (first | rw [← Ny412.out] at ho4 | (simp only [Int.reduceToNat] at ho4; rw [← Ny412.out] at ho4)); have HO414 := Z (Kd.R_lower ho4 (below_size Z67)); replace HB := Z (below_step Z67 hb); clear hb ho4))
  go_loopg [3, 4] k (fun kq v3 v4 w' => ∃ (x3_1 : List Int) (x4_1 : Int), v4 = .int .i64 x4_1 ∧ Aside0 (impl_UnpackOne.l0 kq a0 x3_1 x4_1 = some r) ∧ Aside0 (kq ≤ k) ∧ Aside0 (Kd.R (Kd.int .u8) 5 w' w.heap.size (fun _ => True) v3 x3_1) ∧ Aside0 (Below w.heap.size w w'))
  case atStart => exact ⟨(y412), (28), Z7, H', ⟨Nat.le_refl _⟩, ⟨(Z6 HO414)⟩, ⟨Z67⟩⟩
  case round =>
   clear H'
   try clear c2
   try clear c2b0
   try clear p2
   obtain ⟨x3_1, x4_1, rfl, HA, HK1, HO_3, HB⟩ := hrel
   cases gk with
   | zero => exact absurd HA.out (by simp [impl_UnpackOne.l0])
   | succ k1 =>
    have H := HA.out
    clear HA
    simp only [impl_UnpackOne.l0] at H
    by_cases c5 : 0 ≤ x4_1
    ·rw [if_pos c5] at H
     have c5b0 := eq_true c5
     have c5b1 : decide (0 ≤ x4_1) = true := decide_eq_true c5
     clear c5
     obtain ⟨ji6, hji6⟩ : ∃ j_ : Int, (shl .u32 1 x4_1) = j_ := ⟨_, rfl⟩
     replace H : (if (Go.bits .and .u32 a0 (((ji6) - 1) % 4294967296)) = 0 then (some (strOfNums x3_1)) else ((impl_Decode.f k1 a0 x4_1).bind fun bt415 => (if bt415.1 < 1 then (some (strOfNums x3_1)) else ((impl_LetterAt.f bt415.1).bind fun t417 => (if x3_1.length < 140737488355328 then (impl_UnpackOne.l0 k1 a0 (x3_1 ++ [t417]) (wrap64 (x4_1 - bt415.2))) else (none)))))) = some r := by first | (rw [hji6] at H; exact H) | (simp only [hji6] at H ⊢; exact H)
     have hji6_ : (IntKind.u32.wrap (1 * 2 ^ min x4_1.toNat 32)) = ji6 := hji6
     have hji6z : x4_1 ≤ 32 → (IntKind.u32.wrap (1 * 2 ^ x4_1.toNat)) = ji6 := shl_small hji6
     have hji6u : (IntKind.u32.wrap (2 ^ min x4_1.toNat 32)) = ji6 := by have h_ := hji6_; rw [Int.one_mul] at h_; exact h_
     have hji6v : x4_1 ≤ 32 → (IntKind.u32.wrap (2 ^ x4_1.toNat)) = ji6 := fun hle_ => by have h_ := hji6z hle_; rw [Int.one_mul] at h_; exact h_
     by_cases c7 : (Go.bits .and .u32 a0 (((ji6) - 1) % 4294967296)) = 0
     ·rw [if_pos c7] at H
      have c7b0 : ((Go.bits .and .u32 a0 (((ji6) - 1) % 4294967296)) == 0) = true := beq_iff_eq.mpr c7
      have c7b1 : ((Go.bits .and .u32 a0 (((ji6) - 1) % 4294967296)) != 0) = false := bne_eq_false_iff_eq.mpr c7
      clear c7
      obtain rfl := Option.some.inj H
      have hcv8 := own_string (P := Tryd.prog) Tryd.underlying35 Tryd.underlying5 Tryd.underlying9 (Kd.own_of_R HO_3.out)
      have hcw8 := fun nq_ : Nat => own_string (P := Tryd.prog) Tryd.underlying35 Tryd.underlying5 Tryd.underlying9 (Kd.own_of_R (Kd.R_drewN HO_3.out nq_))
      go_wp2
      go_ret
      exact ⟨Z74, Z67⟩
     ·rw [if_neg c7] at H
      have c7b0 : ((Go.bits .and .u32 a0 (((ji6) - 1) % 4294967296)) == 0) = false := beq_eq_false_iff_ne.mpr c7
      have c7b1 : ((Go.bits .and .u32 a0 (((ji6) - 1) % 4294967296)) != 0) = true := bne_iff_ne.mpr c7
      replace H := Option.bind_eq_some_iff.mp H
      obtain ⟨⟨t415, t416⟩, A90, H⟩ := H
      replace H : (if t415 < 1 then (some (strOfNums x3_1)) else ((impl_LetterAt.f t415).bind fun t417 => (if x3_1.length < 140737488355328 then (impl_UnpackOne.l0 k1 a0 (x3_1 ++ [t417]) (wrap64 (x4_1 - t416))) else (none)))) = some r := H
      have A9 := Aside0.mk A90
      clear A90
      by_cases c10 : t415 < 1
      ·rw [if_pos c10] at H
       have c10b0 : decide (t415 < 1) = true := decide_eq_true c10
       clear c10
       obtain rfl := Option.some.inj H
       go_wp2_with (first | ((with_reducible refine gate_callee (f := 96) rfl ?_); refine goesL_ (some 19) rfl rfl Tryd.func96 Z0 rfl #[.int .u32 a0, .int .i64 x4_1] rfl Z9 ?_; (with_reducible refine (impl_Decode.calls k1 a0 x4_1 t415 t416 _ A9.out).mono ?_); rintro e w' ⟨rfl, ⟨nd, rfl⟩⟩; refine ⟨_, rfl, ?_⟩; have hcv11 := own_string (P := Tryd.prog) Tryd.underlying35 Tryd.underlying5 Tryd.underlying9 (Kd.own_of_R HO_3.out); have hcw11 := fun nq_ : Nat => own_string (P := Tryd.prog) Tryd.underlying35 Tryd.underlying5 Tryd.underlying9 (Kd.own_of_R (Kd.R_drewN HO_3.out nq_))))
       go_ret
       exact ⟨Z74, Z67⟩
      ·rw [if_neg c10] at H
       have c10b0 : decide (t415 < 1) = false := decide_eq_false c10
       clear c10
       replace H := Option.bind_eq_some_iff.mp H
       obtain ⟨t417, A120, H⟩ := H
       replace H : (if x3_1.length < 140737488355328 then (impl_UnpackOne.l0 k1 a0 (x3_1 ++ [t417]) (wrap64 (x4_1 - t416))) else (none)) = some r := H
       have A12 := Aside0.mk A120
       clear A120
       by_cases c13 : x3_1.length < 140737488355328
       ·rw [if_pos c13] at H
        have LMc13 := Aside0.mk c13
        clear c13
        obtain ⟨y418, hy418⟩ : ∃ y_ : List Int, y_ = (x3_1 ++ [t417]) := ⟨_, rfl⟩
        replace H : (impl_UnpackOne.l0 k1 a0 y418 (wrap64 (x4_1 - t416))) = some r := by first | (rw [hy418]; with_reducible exact H) | (have H2_ := (Option.bind_some _ _).symm.trans H; rw [hy418]; with_reducible exact H2_) | (have H2_ := (Option.bind_some _ _).symm.trans H; with_reducible exact H2_) | with_reducible exact H | (rw [hy418]; exact H) | exact H
        have Ny418 := Aside0.mk hy418
        clear hy418
        have H' := Aside0.mk H
        clear H
        go_wp2_with (first | ((with_reducible refine gate_callee (f := 96) rfl ?_); refine goesL_ (some 19) rfl rfl Tryd.func96 Z0 rfl #[.int .u32 a0, .int .i64 x4_1] rfl Z9 ?_; (with_reducible refine (impl_Decode.calls k1 a0 x4_1 t415 t416 _ A9.out).mono ?_); rintro e w' ⟨rfl, ⟨nd, rfl⟩⟩; refine ⟨_, rfl, ?_⟩) | ((with_reducible refine gate_callee (f := 97) rfl ?_); refine goesL_ (some 26) rfl rfl Tryd.func97 Z0 rfl #[.int .i64 t415] rfl Z9 ?_; (with_reducible refine (impl_LetterAt.calls t415 t417 _ A12.out).mono ?_); rintro e w' ⟨rfl, ⟨nd, rfl⟩⟩; refine ⟨_, rfl, ?_⟩) | ((with_reducible refine gate_builtin (b := .append) (xs := #[.tmp 24, .tmp 27]) rfl ?_); at_builtin; refine Kd.R_append (Kd.int .u8) (w0 := w) w.heap.size rfl (.tmp 24) (.tmp 27) 35 5 (.int .u8 0) 1 rfl Tryd.underlying35 info5 rfl (by decide) (by omega) u3 x3_1 t417 [.int .u8 t417] (fun _ => True) (fun _ => False) rfl rfl ?aP (fun _ hk => hk.elim) ?aF ?aO ?aB ?aS ?aL ?_; (case aP => exact rfl); (case aB => exact Z67); (case aF => exact (fun _ _ => trivial)); (case aO => exact (Z6 HO_3)); (case aS => exact (below_size Z67)); (case aL => have := LMc13.out; omega); intro v419 w14 ho hb hg hat; rw [← Ny418.out] at ho; replace HB := Z (hb); have HO420 := Z (ho); clear HO_3; clear ho hb hg hat))
        go_roundg k1
        case measure => have := HK1.out; omega
        case rel => exact ⟨(y418), (wrap64 (x4_1 - t416)), Z7, H', ⟨Z11⟩, ⟨(Z6 HO420)⟩, ⟨Z67⟩⟩
       ·rw [if_neg c13] at H
        exact absurd H (by simp)
    ·rw [if_neg c5] at H
     exact absurd H (by simp)

/-! ### impl_Unpack: function 67 -/
def impl_Unpack.l0 : Nat → List Int → ByteArray → List Int → Int → Int → Option (ByteArray × Bool)
 | 0, _, _, _, _, _ => none
 | k + 1, x0, x4, x10, x11, x12 => if x12 < x11 then (if 0 ≤ x12 then (if x12 < (x10.length : Int) then ((impl_UnpackOne.f k (rd x10 x12)).bind fun t422 => (if x4.size + t422.size ≤ 9223372036854775807 then (impl_Unpack.l0 k x0 (x4 ++ t422) x10 x11 (wrap64 (x12 + 1))) else (none))) else (none)) else (none)) else ((impl_NameOk.f k x4).bind fun t423 => (if t423 = true then ((impl_Pack.f k x4).bind fun t424 => ((slices_Equal_uint32_uint32.f k t424 x0).bind fun t427 => (if t427 = true then (some (x4, true)) else (some ((⟨#[]⟩ : ByteArray), false))))) else (some ((⟨#[]⟩ : ByteArray), false))))
def impl_Unpack.f (k : Nat) (l0 : List Int) : Option (ByteArray × Bool) := if (l0.length : Int) > 24 then (some ((⟨#[]⟩ : ByteArray), false)) else (impl_Unpack.l0 k l0 (⟨#[]⟩ : ByteArray) l0 (l0.length : Int) 0)
theorem impl_Unpack.mono_l : ∀ k, (∀ y0 y1 y2 y3 y4, LeO (impl_Unpack.l0 k y0 y1 y2 y3 y4) (impl_Unpack.l0 (k + 1) y0 y1 y2 y3 y4))
 | 0 => fun _ _ _ _ _ r h => by simp [impl_Unpack.l0] at h
 | k + 1 => by
  have ih0 := impl_Unpack.mono_l k
  ·intro y0 y1 y2 y3 y4
   unfold impl_Unpack.l0
   repeat' first
   | (with_reducible exact ih0 _ _ _ _ _)
   | (with_reducible exact impl_NameOk.mono _ _)
   | (with_reducible exact impl_Pack.mono _ _)
   | (with_reducible exact impl_UnpackOne.mono _ _)
   | (with_reducible exact slices_Equal_uint32_uint32.mono _ _ _)
   | (with_reducible exact LeO.refl _)
   | (with_reducible exact LeO.none _)
   | (with_reducible refine LeO.ite ?_ ?_)
   | (with_reducible refine LeO.bind ?_ (fun _ => ?_))
   | exact ih0 _ _ _ _ _
   | exact impl_NameOk.mono _ _
   | exact impl_Pack.mono _ _
   | exact impl_UnpackOne.mono _ _
   | exact slices_Equal_uint32_uint32.mono _ _ _
   | exact LeO.none _
   | refine LeO.ite ?_ ?_
   | refine LeO.bind ?_ (fun _ => ?_)
theorem impl_Unpack.mono : ∀ a0 k, LeO (impl_Unpack.f k a0) (impl_Unpack.f (k + 1) a0) := by
 intro a0 k
 have ih0 := impl_Unpack.mono_l k
 unfold impl_Unpack.f
 repeat' first
   | (with_reducible exact ih0 _ _ _ _ _)
   | (with_reducible exact impl_NameOk.mono _ _)
   | (with_reducible exact impl_Pack.mono _ _)
   | (with_reducible exact impl_UnpackOne.mono _ _)
   | (with_reducible exact slices_Equal_uint32_uint32.mono _ _ _)
   | (with_reducible exact LeO.refl _)
   | (with_reducible exact LeO.none _)
   | (with_reducible refine LeO.ite ?_ ?_)
   | (with_reducible refine LeO.bind ?_ (fun _ => ?_))
   | exact ih0 _ _ _ _ _
   | exact impl_NameOk.mono _ _
   | exact impl_Pack.mono _ _
   | exact impl_UnpackOne.mono _ _
   | exact slices_Equal_uint32_uint32.mono _ _ _
   | exact LeO.none _
   | refine LeO.ite ?_ ?_
   | refine LeO.bind ?_ (fun _ => ?_)
set_option maxHeartbeats 8000000 in
set_option maxRecDepth 100000 in
theorem impl_Unpack.calls (k : Nat) (A0 : Option Addr) (c0 : Nat) (l0 : List Int) (r1 : ByteArray) (r2 : Bool) (w : World) (hr0 : Kd.C (Kd.int .u32) w A0 l0.length l0) (hc0 : l0.length ≤ c0) (h : impl_Unpack.f k l0 = some (r1, r2)) :
  Calls Tryd.prog 67 #[.slice A0 l0.length c0] w fun e w' => e = .returned (.tuple #[.string r1, .bool r2]) ∧ Below w.heap.size w w' := by
 have HR0 := Aside0.mk hr0
 have HC0 := Aside0.mk hc0
 clear hr0 hc0
 have HB := Z (Below.refl w.heap.size w)
 have H : (if (l0.length : Int) > 24 then (some ((⟨#[]⟩ : ByteArray), false)) else (impl_Unpack.l0 k l0 (⟨#[]⟩ : ByteArray) l0 (l0.length : Int) 0)) = some (r1, r2) := h
 clear h
 by_cases c2 : (l0.length : Int) > 24
 ·rw [if_pos c2] at H
  have c2b0 : decide (24 < (l0.length : Int)) = true := decide_eq_true c2
  have c2b1 : decide (24 < l0.length) = true := decide_eq_true (by omega)
  clear c2
  simp only [Option.some.injEq, Prod.mk.injEq] at H
  obtain ⟨rfl, rfl⟩ := H
  go_enter Tryd.func67, Tryd.ntmps67
  go_wp2
  go_ret2
  exact ⟨Z68, Z67⟩
 ·rw [if_neg c2] at H
  have c2b0 : decide (24 < (l0.length : Int)) = false := decide_eq_false c2
  have c2b1 : decide (24 < l0.length) = false := decide_eq_false (by omega)
  clear c2
  have H' := Aside0.mk H
  clear H
  go_enter Tryd.func67, Tryd.ntmps67
  go_wp2
  go_loopg [4, 12] k (fun kq v4 v12 w' => ∃ (x4_1 : ByteArray) (x12_1 : Int), v4 = .string x4_1 ∧ v12 = .int .i64 x12_1 ∧ Aside0 (impl_Unpack.l0 kq l0 x4_1 l0 (l0.length : Int) x12_1 = some (r1, r2)) ∧ Aside0 (kq ≤ k) ∧ Aside0 (Below w.heap.size w w'))
  case atStart => exact ⟨((⟨#[]⟩ : ByteArray)), (0), Z7, Z7, H', ⟨Nat.le_refl _⟩, ⟨Z67⟩⟩
  case round =>
   clear H'
   try clear c2
   try clear c2b0
   try clear c2b1
   try clear p2
   obtain ⟨x4_1, x12_1, rfl, rfl, HA, HK1, HB⟩ := hrel
   cases gk with
   | zero => exact absurd HA.out (by simp [impl_Unpack.l0])
   | succ k1 =>
    have H := HA.out
    clear HA
    simp only [impl_Unpack.l0] at H
    by_cases c3 : x12_1 < (l0.length : Int)
    ·rw [if_pos c3] at H
     have c3b0 : decide (x12_1 < (l0.length : Int)) = true := decide_eq_true c3
     clear c3
     by_cases c4 : 0 ≤ x12_1
     ·rw [if_pos c4] at H
      have c4b0 : decide (0 ≤ x12_1) = true := decide_eq_true c4
      clear c4
      by_cases c5 : x12_1 < (l0.length : Int)
      ·rw [if_pos c5] at H
       have c5b0 : decide (x12_1 < (l0.length : Int)) = true := decide_eq_true c5
       clear c5
       replace H := Option.bind_eq_some_iff.mp H
       obtain ⟨t422, A60, H⟩ := H
       replace H : (if x4_1.size + t422.size ≤ 9223372036854775807 then (impl_Unpack.l0 k1 l0 (x4_1 ++ t422) l0 (l0.length : Int) (wrap64 (x12_1 + 1))) else (none)) = some (r1, r2) := H
       have A6 := Aside0.mk A60
       clear A60
       by_cases c7 : x4_1.size + t422.size ≤ 9223372036854775807
       ·rw [if_pos c7] at H
        have c7b0 := eq_true c7
        have c7b1 : decide (x4_1.size + t422.size ≤ 9223372036854775807) = true := decide_eq_true c7
        try have c7b2 : (9223372036854775807 < x4_1.size + t422.size) = False := eq_false (Nat.not_lt.2 c7)
        have H' := Aside0.mk H
        clear H
        have p421 : 0 ≤ (x12_1 : Int) := of_decide_eq_true Z10
        have q421 : x12_1 < (l0.length : Int) := of_decide_eq_true Z10
        obtain ⟨ad421, e421, hx421_0⟩ := Kd.at_int HR0.out x12_1 p421 q421
        cases e421
        replace hx421_0 := (HB.out.cell (World.block_lt_of_cell? w _ hx421_0)).trans hx421_0
        replace p421 := eq_true p421
        replace q421 := eq_true q421
        go_wp2_with (first | ((with_reducible refine gate_callee (f := 71) rfl ?_); refine goesL_ (some 18) rfl rfl Tryd.func71 Z0 rfl #[.int .u32 (rd l0 x12_1)] rfl Z9 ?_; (with_reducible refine (impl_UnpackOne.calls k1 (rd l0 x12_1) t422 _ A6.out).mono ?_); rintro e w8 ⟨rfl, hb⟩; refine ⟨_, rfl, ?_⟩; replace HB := Z (below_step Z67 hb); (try clear hb); (try clear hb2); (try clear hk); (try clear hi)))
        go_roundg k1
        case measure => have := HK1.out; omega
        case rel => exact ⟨(x4_1 ++ t422), (wrap64 (x12_1 + 1)), Z7, Z7, H', ⟨Z11⟩, ⟨Z67⟩⟩
       ·rw [if_neg c7] at H
        exact absurd H (by simp)
      ·rw [if_neg c5] at H
       exact absurd H (by simp)
     ·rw [if_neg c4] at H
      exact absurd H (by simp)
    ·rw [if_neg c3] at H
     have c3b0 : decide (x12_1 < (l0.length : Int)) = false := decide_eq_false c3
     clear c3
     replace H := Option.bind_eq_some_iff.mp H
     obtain ⟨t423, A90, H⟩ := H
     replace H : (if t423 = true then ((impl_Pack.f k1 x4_1).bind fun t424 => ((slices_Equal_uint32_uint32.f k1 t424 l0).bind fun t427 => (if t427 = true then (some (x4_1, true)) else (some ((⟨#[]⟩ : ByteArray), false))))) else (some ((⟨#[]⟩ : ByteArray), false))) = some (r1, r2) := H
     have A9 := Aside0.mk A90
     clear A90
     by_cases c10 : t423 = true
     ·subst c10
      have H1 : ((impl_Pack.f k1 x4_1).bind fun t424 => ((slices_Equal_uint32_uint32.f k1 t424 l0).bind fun t427 => (if t427 = true then (some (x4_1, true)) else (some ((⟨#[]⟩ : ByteArray), false))))) = some (r1, r2) := Z2
      clear H
      have H := H1
      clear H1
      replace H := Option.bind_eq_some_iff.mp H
      obtain ⟨t424, A110, H⟩ := H
      replace H : ((slices_Equal_uint32_uint32.f k1 t424 l0).bind fun t427 => (if t427 = true then (some (x4_1, true)) else (some ((⟨#[]⟩ : ByteArray), false)))) = some (r1, r2) := H
      have A11 := Aside0.mk A110
      clear A110
      replace H := Option.bind_eq_some_iff.mp H
      obtain ⟨t427, A120, H⟩ := H
      replace H : (if t427 = true then (some (x4_1, true)) else (some ((⟨#[]⟩ : ByteArray), false))) = some (r1, r2) := H
      have A12 := Aside0.mk A120
      clear A120
      by_cases c13 : t427 = true
      ·subst c13
       have H1 : (some (x4_1, true)) = some (r1, r2) := Z2
       clear H
       have H := H1
       clear H1
       simp only [Option.some.injEq, Prod.mk.injEq] at H
       obtain ⟨rfl, rfl⟩ := H
       go_wp2_with (first | ((with_reducible refine gate_callee (f := 86) rfl ?_); refine goesL_ (some 22) rfl rfl Tryd.func86 Z0 rfl #[.string x4_1] rfl Z9 ?_; (with_reducible refine (impl_NameOk.calls k1 x4_1 true _ A9.out).mono ?_); rintro e w' ⟨rfl, ⟨nd, rfl⟩⟩; refine ⟨_, rfl, ?_⟩) | (go_at_call 58; (with_reducible refine (impl_Pack.calls k1 x4_1 t424 _ A11.out).mono ?_); rintro e w14 ⟨v425, rfl, ho0, hb⟩; have HO426 := Z (Kd.R_lower ho0 (below_size Z67)); replace HB := Z (below_step Z67 hb); (try clear hb); (try clear hb2); (try clear hk); (try clear hi); (try clear ho0); obtain ⟨Ao15, co15, eo15⟩ := Kd.R_slice HO426.out; subst eo15) | (go_at_call 69; (with_reducible refine (slices_Equal_uint32_uint32.calls k1 _ _ t424 _ _ l0 true _ ?side1 ?side2 ?side3 ?side4 A12.out).mono ?_); (case side1 => exact (Z23 HO426)); (case side2 => exact (Kd.R_reads' HO426.out).2.1); (case side3 => exact (Z24 HR0)); (case side4 => exact HC0.out); rintro e w' ⟨rfl, ⟨nd, rfl⟩⟩))
       go_ret2
       exact ⟨Z68, Z67⟩
      ·replace c13 := Bool.eq_false_iff.mpr c13
       subst c13
       have H1 : (some ((⟨#[]⟩ : ByteArray), false)) = some (r1, r2) := by rw [if_neg (show ¬ (false = true) by decide)] at H; exact H
       clear H
       have H := H1
       clear H1
       simp only [Option.some.injEq, Prod.mk.injEq] at H
       obtain ⟨rfl, rfl⟩ := H
       go_wp2_with (first | ((with_reducible refine gate_callee (f := 86) rfl ?_); refine goesL_ (some 22) rfl rfl Tryd.func86 Z0 rfl #[.string x4_1] rfl Z9 ?_; (with_reducible refine (impl_NameOk.calls k1 x4_1 true _ A9.out).mono ?_); rintro e w' ⟨rfl, ⟨nd, rfl⟩⟩; refine ⟨_, rfl, ?_⟩) | (go_at_call 58; (with_reducible refine (impl_Pack.calls k1 x4_1 t424 _ A11.out).mono ?_); rintro e w16 ⟨v425, rfl, ho0, hb⟩; have HO426 := Z (Kd.R_lower ho0 (below_size Z67)); replace HB := Z (below_step Z67 hb); (try clear hb); (try clear hb2); (try clear hk); (try clear hi); (try clear ho0); obtain ⟨Ao17, co17, eo17⟩ := Kd.R_slice HO426.out; subst eo17) | (go_at_call 69; (with_reducible refine (slices_Equal_uint32_uint32.calls k1 _ _ t424 _ _ l0 false _ ?side1 ?side2 ?side3 ?side4 A12.out).mono ?_); (case side1 => exact (Z23 HO426)); (case side2 => exact (Kd.R_reads' HO426.out).2.1); (case side3 => exact (Z24 HR0)); (case side4 => exact HC0.out); rintro e w' ⟨rfl, ⟨nd, rfl⟩⟩))
       go_ret2
       exact ⟨Z68, Z67⟩
     ·replace c10 := Bool.eq_false_iff.mpr c10
      subst c10
      have H1 : (some ((⟨#[]⟩ : ByteArray), false)) = some (r1, r2) := by rw [if_neg (show ¬ (false = true) by decide)] at H; exact H
      clear H
      have H := H1
      clear H1
      simp only [Option.some.injEq, Prod.mk.injEq] at H
      obtain ⟨rfl, rfl⟩ := H
      go_wp2_with (first | ((with_reducible refine gate_callee (f := 86) rfl ?_); refine goesL_ (some 22) rfl rfl Tryd.func86 Z0 rfl #[.string x4_1] rfl Z9 ?_; (with_reducible refine (impl_NameOk.calls k1 x4_1 false _ A9.out).mono ?_); rintro e w' ⟨rfl, ⟨nd, rfl⟩⟩; refine ⟨_, rfl, ?_⟩))
      go_ret2
      exact ⟨Z68, Z67⟩

/-! ### impl_nameKind: function 68 -/
def impl_nameKind.l0 : Nat → Int → Int → Option (Int)
 | 0, _, _ => none
 | k + 1, x0, x3 => if x3 ≤ 6 then ((impl_nameTag.f x3).bind fun t428 => (if t428 = x0 then (some x3) else (impl_nameKind.l0 k x0 (wrap64 (x3 + 1))))) else (some 0)
def impl_nameKind.f (k : Nat) (a0 : Int) : Option (Int) := impl_nameKind.l0 k a0 1
theorem impl_nameKind.mono_l : ∀ k, (∀ y0 y1, LeO (impl_nameKind.l0 k y0 y1) (impl_nameKind.l0 (k + 1) y0 y1))
 | 0 => fun _ _ r h => by simp [impl_nameKind.l0] at h
 | k + 1 => by
  have ih0 := impl_nameKind.mono_l k
  ·intro y0 y1
   unfold impl_nameKind.l0
   repeat' first
   | (with_reducible exact ih0 _ _)
   | (with_reducible exact LeO.refl _)
   | (with_reducible exact LeO.none _)
   | (with_reducible refine LeO.ite ?_ ?_)
   | (with_reducible refine LeO.bind ?_ (fun _ => ?_))
   | exact ih0 _ _
   | exact LeO.none _
   | refine LeO.ite ?_ ?_
   | refine LeO.bind ?_ (fun _ => ?_)
theorem impl_nameKind.mono : ∀ a0 k, LeO (impl_nameKind.f k a0) (impl_nameKind.f (k + 1) a0) := by
 intro a0 k
 have ih0 := impl_nameKind.mono_l k
 unfold impl_nameKind.f
 repeat' first
   | (with_reducible exact ih0 _ _)
   | (with_reducible exact LeO.refl _)
   | (with_reducible exact LeO.none _)
   | (with_reducible refine LeO.ite ?_ ?_)
   | (with_reducible refine LeO.bind ?_ (fun _ => ?_))
   | exact ih0 _ _
   | exact LeO.none _
   | refine LeO.ite ?_ ?_
   | refine LeO.bind ?_ (fun _ => ?_)
set_option maxHeartbeats 8000000 in
set_option maxRecDepth 100000 in
theorem impl_nameKind.calls (k : Nat) (a0 : Int) (r : Int) (w : World) (h : impl_nameKind.f k a0 = some r) :
  Calls Tryd.prog 68 #[.int .u32 a0] w fun e w' => e = .returned (.int .i64 r) ∧ Drawn0 w w' := by
 have H : (impl_nameKind.l0 k a0 1) = some r := h
 clear h
 have H' := Aside0.mk H
 clear H
 go_enter Tryd.func68, Tryd.ntmps68
 go_wp2
 go_loopg [3] k (fun kq v3 w' => ∃ (x3_1 : Int), v3 = .int .i64 x3_1 ∧ Aside0 (impl_nameKind.l0 kq a0 x3_1 = some r) ∧ Aside0 (kq ≤ k) ∧ Drawn0 w w')
 case atStart => exact ⟨(1), Z7, H', ⟨Nat.le_refl _⟩, Z8⟩
 case round =>
  clear H'
  obtain ⟨x3_1, rfl, HA, HK1, ⟨m1, rfl⟩⟩ := hrel
  cases gk with
  | zero => exact absurd HA.out (by simp [impl_nameKind.l0])
  | succ k1 =>
   have H := HA.out
   clear HA
   simp only [impl_nameKind.l0] at H
   by_cases c2 : x3_1 ≤ 6
   ·rw [if_pos c2] at H
    have c2b0 : decide (x3_1 ≤ 6) = true := decide_eq_true c2
    clear c2
    replace H := Option.bind_eq_some_iff.mp H
    obtain ⟨t428, A30, H⟩ := H
    replace H : (if t428 = a0 then (some x3_1) else (impl_nameKind.l0 k1 a0 (wrap64 (x3_1 + 1)))) = some r := H
    have A3 := Aside0.mk A30
    clear A30
    by_cases c4 : t428 = a0
    ·rw [if_pos c4] at H
     have c4b0 : (t428 == a0) = true := beq_iff_eq.mpr c4
     have c4b1 : (t428 != a0) = false := bne_eq_false_iff_eq.mpr c4
     clear c4
     obtain rfl := Option.some.inj H
     go_wp2_with (first | ((with_reducible refine gate_callee (f := 57) rfl ?_); refine goesL_ (some 9) rfl rfl Tryd.func57 Z0 rfl #[.int .i64 x3_1] rfl Z9 ?_; (with_reducible refine (impl_nameTag.calls x3_1 t428 _ A3.out).mono ?_); rintro e w' ⟨rfl, ⟨nd, rfl⟩⟩; refine ⟨_, rfl, ?_⟩))
     go_ret
     exact ⟨Z7, Z8⟩
    ·rw [if_neg c4] at H
     have c4b0 : (t428 == a0) = false := beq_eq_false_iff_ne.mpr c4
     have c4b1 : (t428 != a0) = true := bne_iff_ne.mpr c4
     have H' := Aside0.mk H
     clear H
     go_wp2_with (first | ((with_reducible refine gate_callee (f := 57) rfl ?_); refine goesL_ (some 9) rfl rfl Tryd.func57 Z0 rfl #[.int .i64 x3_1] rfl Z9 ?_; (with_reducible refine (impl_nameTag.calls x3_1 t428 _ A3.out).mono ?_); rintro e w' ⟨rfl, ⟨nd, rfl⟩⟩; refine ⟨_, rfl, ?_⟩))
     go_roundg k1
     case measure => have := HK1.out; omega
     case rel => exact ⟨(wrap64 (x3_1 + 1)), Z7, H', ⟨Z11⟩, Z8⟩
   ·rw [if_neg c2] at H
    have c2b0 : decide (x3_1 ≤ 6) = false := decide_eq_false c2
    clear c2
    obtain rfl := Option.some.inj H
    go_wp2
    go_ret
    exact ⟨Z7, Z8⟩

/-! ### impl_FieldOk: function 70 -/
def impl_FieldOk.f (k : Nat) (a0 : Int) : Option (Bool) := (impl_UnpackOne.f k a0).bind fun t429 => ((impl_Pack.f k t429).bind fun t430 => ((slices_Equal_uint32_uint32.f k t430 (([a0] : List Int))).bind fun t436 => (some t436)))
theorem impl_FieldOk.mono : ∀ a0 k, LeO (impl_FieldOk.f k a0) (impl_FieldOk.f (k + 1) a0) := by
 intro a0 k
 unfold impl_FieldOk.f
 repeat' first
   | (with_reducible exact impl_Pack.mono _ _)
   | (with_reducible exact impl_UnpackOne.mono _ _)
   | (with_reducible exact slices_Equal_uint32_uint32.mono _ _ _)
   | (with_reducible exact LeO.refl _)
   | (with_reducible exact LeO.none _)
   | (with_reducible refine LeO.ite ?_ ?_)
   | (with_reducible refine LeO.bind ?_ (fun _ => ?_))
   | exact impl_Pack.mono _ _
   | exact impl_UnpackOne.mono _ _
   | exact slices_Equal_uint32_uint32.mono _ _ _
   | exact LeO.none _
   | refine LeO.ite ?_ ?_
   | refine LeO.bind ?_ (fun _ => ?_)
set_option maxHeartbeats 8000000 in
set_option maxRecDepth 100000 in
theorem impl_FieldOk.calls (k : Nat) (a0 : Int) (r : Bool) (w : World) (h : impl_FieldOk.f k a0 = some r) :
  Calls Tryd.prog 70 #[.int .u32 a0] w fun e w' => e = .returned (.bool r) ∧ Below w.heap.size w w' := by
 have HB := Z (Below.refl w.heap.size w)
 have H : ((impl_UnpackOne.f k a0).bind fun t429 => ((impl_Pack.f k t429).bind fun t430 => ((slices_Equal_uint32_uint32.f k t430 (([a0] : List Int))).bind fun t436 => (some t436)))) = some r := h
 clear h
 replace H := Option.bind_eq_some_iff.mp H
 obtain ⟨t429, A20, H⟩ := H
 replace H : ((impl_Pack.f k t429).bind fun t430 => ((slices_Equal_uint32_uint32.f k t430 (([a0] : List Int))).bind fun t436 => (some t436))) = some r := H
 have A2 := Aside0.mk A20
 clear A20
 replace H := Option.bind_eq_some_iff.mp H
 obtain ⟨t430, A30, H⟩ := H
 replace H : ((slices_Equal_uint32_uint32.f k t430 (([a0] : List Int))).bind fun t436 => (some t436)) = some r := H
 have A3 := Aside0.mk A30
 clear A30
 obtain ⟨y433, hy433⟩ : ∃ y_ : List Int, y_ = (([a0] : List Int)) := ⟨_, rfl⟩
 replace H : ((slices_Equal_uint32_uint32.f k t430 y433).bind fun t436 => (some t436)) = some r := by first | (rw [hy433]; with_reducible exact H) | (have H2_ := (Option.bind_some _ _).symm.trans H; rw [hy433]; with_reducible exact H2_) | (have H2_ := (Option.bind_some _ _).symm.trans H; with_reducible exact H2_) | with_reducible exact H | (rw [hy433]; exact H) | exact H
 have Ny433 := Aside0.mk hy433
 clear hy433
 replace H := Option.bind_eq_some_iff.mp H
 obtain ⟨t436, A40, H⟩ := H
 replace H : (some t436) = some r := H
 have A4 := Aside0.mk A40
 clear A40
 obtain rfl := Option.some.inj H
 go_enter Tryd.func70, Tryd.ntmps70
 go_wp2_with (first | ((with_reducible refine gate_callee (f := 71) rfl ?_); refine goesL_ (some 4) rfl rfl Tryd.func71 Z0 rfl #[.int .u32 a0] rfl Z9 ?_; (with_reducible refine (impl_UnpackOne.calls k a0 t429 _ A2.out).mono ?_); rintro e w5 ⟨rfl, hb⟩; refine ⟨_, rfl, ?_⟩; replace HB := Z (below_step Z67 hb); (try clear hb); (try clear hb2); (try clear hk); (try clear hi)) | ((with_reducible refine gate_callee (f := 58) rfl ?_); refine goesL_ (some 5) rfl rfl Tryd.func58 Z0 rfl #[.string t429] rfl Z9 ?_; (with_reducible refine (impl_Pack.calls k t429 t430 _ A3.out).mono ?_); rintro e w6 ⟨v431, rfl, ho0, hb⟩; refine ⟨_, rfl, ?_⟩; have HO432 := Z (Kd.R_lower ho0 (below_size Z67)); replace HB := Z (below_step Z67 hb); (try clear hb); (try clear hb2); (try clear hk); (try clear hi); (try clear ho0)) | ((with_reducible refine gate_dst (N := 7) rfl ?_); refine Kd.R_lit (Kd.int .u32) _ 22 (by rfl) (N := 7) (by rfl) (xs := ([a0] : List Int)) (inner := [.int .u32 a0]) (ok := fun _ => True) (okp := fun _ => True) Z3 (Reps.one (show Kd.M (Kd.int .u32) _ _ _ a0 [.int .u32 a0] from rfl) (Reps.none _ _)) (fun _ hk => hk) trivial (Below.refl _ _) (Nat.le_refl _) (by simp) ?_; intro v434 w7 ho8 hb hg_ hnew_; clear hg_ hnew_; (first | rw [← Ny433.out] at ho8 | (simp only [Int.reduceToNat] at ho8; rw [← Ny433.out] at ho8)); have HO435 := Z (Kd.R_lower (Kd.R_new' ho8 (Kd.R_lt (Z6 HO432))) (below_size Z67)); replace HO432 := Z (Kd.R_elder' (Z6 HO432) (Kd.R_base ho8) hb); replace HB := Z (below_step Z67 hb); clear hb ho8; obtain ⟨Ao9, co9, eo9⟩ := Kd.R_slice HO432.out; subst eo9; obtain ⟨Ao10, co10, eo10⟩ := Kd.R_slice HO435.out; subst eo10) | ((with_reducible refine gate_callee (f := 69) rfl ?_); refine goesL_ (some 8) rfl rfl Tryd.func69 Z0 rfl #[.slice Ao9 t430.length co9, .slice Ao10 y433.length co10] rfl Z9 ?_; (with_reducible refine (slices_Equal_uint32_uint32.calls k _ _ t430 _ _ y433 t436 _ ?side1 ?side2 ?side3 ?side4 A4.out).mono ?_); (case side1 => exact (Z23 HO432)); (case side2 => exact (Kd.R_reads' HO432.out).2.1); (case side3 => exact (Z23 HO435)); (case side4 => exact (Kd.R_reads' HO435.out).2.1); rintro e w' ⟨rfl, ⟨nd, rfl⟩⟩; refine ⟨_, rfl, ?_⟩))
 go_ret
 exact ⟨Z68, Z67⟩

end Go.Proofs.YtfjmpdcflnaogaaDoor.QFnExactExport
