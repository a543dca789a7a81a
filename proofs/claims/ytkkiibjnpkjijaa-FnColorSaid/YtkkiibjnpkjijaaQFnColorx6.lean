/-
Plain functions for the Go functions that a law reaches, each with a proof that the translation's call comes to just that; no conditions beyond those written in each.
-/
import Derived.Test.YtkkiibjnpkjijaaSFnColor
import Derived.Test.YtkkiibjnpkjijaaQFnColorx1
import Derived.Test.YtkkiibjnpkjijaaQFnColorx4
import Derived.Test.YtkkiibjnpkjijaaQFnColorx5
namespace Go.Proofs.Ytkkiibjnpkjijaa.QFnColor
open Go.RowKit Go.Proofs.YtkkiibjnpkjijaaW.PrintWords Go.Proofs.YtkkiibjnpkjijaaW.PrintLast Go.Proofs.YtkkiibjnpkjijaaW.PrintMore
attribute [local go_sem] max2_int min2_int max_two min_two max_three min_three max_four min_four   -- for this text's walks alone
set_option linter.unusedVariables false
set_option linter.unusedSimpArgs false

attribute [local go_sem high] eqA51
/-! ### impl_CellsOf: function 43 -/
mutual
def impl_CellsOf.j0 : Nat → Int → Bool → Int → ByteArray → Int → Bool → Int → Option (List Int)
 | 0, _, _, _, _, _, _, _ => none
 | k + 1, x3, x11, x255000, x255001, x255002, x255003, x255004 => if x11 = true then ((impl_Pack.f k x255001).bind fun t259 => (impl_CellsOf.l0 k x3 (([] : List Int)) t259 (t259.length : Int) 0)) else (if (x255000 == 7 && (x255001.toList == ([] : List UInt8) && (x255004 == 0))) = true then ((impl_numberCells.f x255002 x255003 8 2).bind fun t266 => (some t266)) else (if (x255000 == 8 && (x255001.toList == ([] : List UInt8) && (x255004 == 0))) = true then ((impl_numberCells.f x255002 x255003 6 5).bind fun t269 => (some t269)) else (if (x255000 == 9 && (!x255003 && (x255004 == 0))) = true then ((impl_Pack.f k x255001).bind fun t272 => (if (t272.length : Int) = 1 then (if 0 < (t272.length : Int) then (some (([Go.bits .or .u32 (((rd t272 0) * 16) % 4294967296) 12, (x255002) % 4294967296] : List Int))) else (none)) else (some ([] : List Int)))) else (if (x255000 == 0 && (x255001.toList == ([] : List UInt8) && (x255002 == 0 && (!x255003)))) = true then (some (([x255004] : List Int))) else (some ([] : List Int))))))
def impl_CellsOf.l0 : Nat → Int → List Int → List Int → Int → Int → Option (List Int)
 | 0, _, _, _, _, _ => none
 | k + 1, x3, x4, x26, x27, x28 => if x28 < x27 then (if 0 ≤ x28 then (if x28 < (x26.length : Int) then (if x4.length < 35184372088832 then (impl_CellsOf.l0 k 0 (x4 ++ [Go.bits .or .u32 (((rd x26 x28) * 16) % 4294967296) x3]) x26 x27 (wrap64 (x28 + 1))) else (none)) else (none)) else (none)) else (some x4)
end
def impl_CellsOf.f (k : Nat) (a0_0 : Int) (a0_1 : ByteArray) (a0_2 : Int) (a0_3 : Bool) (a0_4 : Int) : Option (List Int) := (impl_nameTag.f a0_0).bind fun t255 => (if t255 > 0 then (impl_CellsOf.j0 k t255 (a0_2 == 0 && (!a0_3 && (a0_4 == 0))) a0_0 a0_1 a0_2 a0_3 a0_4) else (impl_CellsOf.j0 k t255 false a0_0 a0_1 a0_2 a0_3 a0_4))
theorem impl_CellsOf.mono_l : ∀ k, (∀ y0 y1 y2 y3 y4 y5 y6, LeO (impl_CellsOf.j0 k y0 y1 y2 y3 y4 y5 y6) (impl_CellsOf.j0 (k + 1) y0 y1 y2 y3 y4 y5 y6)) ∧ (∀ y0 y1 y2 y3 y4, LeO (impl_CellsOf.l0 k y0 y1 y2 y3 y4) (impl_CellsOf.l0 (k + 1) y0 y1 y2 y3 y4))
 | 0 => ⟨fun _ _ _ _ _ _ _ r h => by simp [impl_CellsOf.j0] at h, fun _ _ _ _ _ r h => by simp [impl_CellsOf.l0] at h⟩
 | k + 1 => by
  obtain ⟨ih0, ih1⟩ := impl_CellsOf.mono_l k
  refine ⟨?_, ?_⟩
  ·intro y0 y1 y2 y3 y4 y5 y6
   unfold impl_CellsOf.j0
   repeat' first
   | (with_reducible exact ih0 _ _ _ _ _ _ _)
   | (with_reducible exact ih1 _ _ _ _ _)
   | (with_reducible exact impl_Pack.mono _ _)
   | (with_reducible exact LeO.refl _)
   | (with_reducible exact LeO.none _)
   | (with_reducible refine LeO.ite ?_ ?_)
   | (with_reducible refine LeO.bind ?_ (fun _ => ?_))
   | exact ih0 _ _ _ _ _ _ _
   | exact ih1 _ _ _ _ _
   | exact impl_Pack.mono _ _
   | exact LeO.none _
   | refine LeO.ite ?_ ?_
   | refine LeO.bind ?_ (fun _ => ?_)
  ·intro y0 y1 y2 y3 y4
   unfold impl_CellsOf.l0
   repeat' first
   | (with_reducible exact ih0 _ _ _ _ _ _ _)
   | (with_reducible exact ih1 _ _ _ _ _)
   | (with_reducible exact impl_Pack.mono _ _)
   | (with_reducible exact LeO.refl _)
   | (with_reducible exact LeO.none _)
   | (with_reducible refine LeO.ite ?_ ?_)
   | (with_reducible refine LeO.bind ?_ (fun _ => ?_))
   | exact ih0 _ _ _ _ _ _ _
   | exact ih1 _ _ _ _ _
   | exact impl_Pack.mono _ _
   | exact LeO.none _
   | refine LeO.ite ?_ ?_
   | refine LeO.bind ?_ (fun _ => ?_)
theorem impl_CellsOf.mono : ∀ a0 a1 a2 a3 a4 k, LeO (impl_CellsOf.f k a0 a1 a2 a3 a4) (impl_CellsOf.f (k + 1) a0 a1 a2 a3 a4) := by
 intro a0 a1 a2 a3 a4 k
 obtain ⟨ih0, ih1⟩ := impl_CellsOf.mono_l k
 unfold impl_CellsOf.f
 repeat' first
   | (with_reducible exact ih0 _ _ _ _ _ _ _)
   | (with_reducible exact ih1 _ _ _ _ _)
   | (with_reducible exact impl_Pack.mono _ _)
   | (with_reducible exact LeO.refl _)
   | (with_reducible exact LeO.none _)
   | (with_reducible refine LeO.ite ?_ ?_)
   | (with_reducible refine LeO.bind ?_ (fun _ => ?_))
   | exact ih0 _ _ _ _ _ _ _
   | exact ih1 _ _ _ _ _
   | exact impl_Pack.mono _ _
   | exact LeO.none _
   | refine LeO.ite ?_ ?_
   | refine LeO.bind ?_ (fun _ => ?_)
def impl_CellsOf.T18 : Bool × List (List Nat × List Nat) := (true, [([], []), ([0], [0]), ([1], [1]), ([2], [2]), ([3], [3]), ([], []), ([5], [5]), ([6], [6]), ([4, 7], [4, 7]), ([8, 0, 1, 2, 3, 4, 5, 6, 7, 8], [8])])
def impl_CellsOf.B18 : List Nat := [0, 1, 3, 7, 15, 0, 32, 96, 255, 511]
theorem impl_CellsOf.tab18 : rtab .any (opsOf Try.f43 18) = impl_CellsOf.T18 := Z0
theorem impl_CellsOf.bits18 : waitsOk impl_CellsOf.T18.2 impl_CellsOf.B18 = true := Z0
set_option maxHeartbeats 8000000 in
set_option maxRecDepth 100000 in
theorem impl_CellsOf.calls (k : Nat) (a0_0 : Int) (a0_1 : ByteArray) (a0_2 : Int) (a0_3 : Bool) (a0_4 : Int) (r : List Int) (w : World) (h : impl_CellsOf.f k a0_0 a0_1 a0_2 a0_3 a0_4 = some r) :
  Calls Try.prog 43 #[.agg #[.int .i64 a0_0, .string a0_1, .int .i32 a0_2, .bool a0_3, .int .u32 a0_4]] w fun e w' => ∃ v0_ : Value, e = .returned (v0_) ∧ Kd.R (Kd.int .u32) 47 w' w.heap.size (fun _ => True) v0_ r ∧ Below w.heap.size w w' := by
 have hu51 := Try.underlying51
 have HB := Z (Below.refl w.heap.size w)
 have H : ((impl_nameTag.f a0_0).bind fun t255 => (if t255 > 0 then (impl_CellsOf.j0 k t255 (a0_2 == 0 && (!a0_3 && (a0_4 == 0))) a0_0 a0_1 a0_2 a0_3 a0_4) else (impl_CellsOf.j0 k t255 false a0_0 a0_1 a0_2 a0_3 a0_4))) = some r := h
 clear h
 replace H := Option.bind_eq_some_iff.mp H
 obtain ⟨t255, A20, H⟩ := H
 replace H : (if t255 > 0 then (impl_CellsOf.j0 k t255 (a0_2 == 0 && (!a0_3 && (a0_4 == 0))) a0_0 a0_1 a0_2 a0_3 a0_4) else (impl_CellsOf.j0 k t255 false a0_0 a0_1 a0_2 a0_3 a0_4)) = some r := H
 have A2 := Aside0.mk A20
 clear A20
 have HC3 := Aside0.mk H
 clear H
 go_enter Try.func43, Try.ntmps43
 go_upto_region 2 with (first | ((with_reducible refine gate_dst (N := 1) rfl ?_); refine box_event (by rfl) (N := 1) (by rfl) (cs := #[.int .i64 a0_0, .string a0_1, .int .i32 a0_2, .bool a0_3, .int .u32 a0_4]) (t := 51) Z5 ?_; intro gb254 hg w4 hbox hb; have BK254 := Z (hbox); have GW254 := Z ((Z66 : w.heap.size ≤ gb254)); have GE254 := Z ((Z66 : w.heap.size ≤ gb254)); replace HB := Z (below_step Z47 hb); clear hb hbox hg; have hcz5_0 : w4.cell? ⟨gb254, 0, none⟩ = some (.int .i64 a0_0) := (blk_cell BK254.out 0).trans rfl; have hcz5_1 : w4.cell? ⟨gb254, 1, none⟩ = some (.string a0_1) := (blk_cell BK254.out 1).trans rfl; have hcz5_2 : w4.cell? ⟨gb254, 2, none⟩ = some (.int .i32 a0_2) := (blk_cell BK254.out 2).trans rfl; have hcz5_3 : w4.cell? ⟨gb254, 3, none⟩ = some (.bool a0_3) := (blk_cell BK254.out 3).trans rfl; have hcz5_4 : w4.cell? ⟨gb254, 4, none⟩ = some (.int .u32 a0_4) := (blk_cell BK254.out 4).trans rfl; have hfz5_0 := blk_frozen BK254.out 0; have hfz5_1 := blk_frozen BK254.out 1; have hfz5_2 := blk_frozen BK254.out 2; have hfz5_3 := blk_frozen BK254.out 3; have hfz5_4 := blk_frozen BK254.out 4) | ((with_reducible refine gate_callee (f := 70) rfl ?_); refine goesL_ (some 10) rfl rfl Try.func70 Z0 rfl #[.int .i64 a0_0] rfl Z9 ?_; (with_reducible refine (impl_nameTag.calls a0_0 t255 _ A2.out).mono ?_); rintro e w' ⟨rfl, ⟨nd, rfl⟩⟩; refine ⟨_, rfl, ?_⟩))
 (try simp only [Act.put, List.setIfInBounds_toArray, List.set_cons_zero, List.set_cons_succ])
 go_cut [11] (fun v11 wc => ∃ (kq : Nat) (x11_2 : Bool), v11 = .bool x11_2 ∧ Aside0 (impl_CellsOf.j0 kq t255 x11_2 a0_0 a0_1 a0_2 a0_3 a0_4 = some r) ∧ Aside0 (kq ≤ k) ∧ Aside0 (wc.heap[gb254]? = some (.cells #[.int .i64 a0_0, .string a0_1, .int .i32 a0_2, .bool a0_3, .int .u32 a0_4] 51 (0, 0))) ∧ Aside0 (Below w.heap.size w wc))
 case first =>
  have H := HC3.out
  clear HC3
  by_cases c6 : t255 > 0
  ·rw [if_pos c6] at H
   have c6b0 : decide (0 < t255) = true := decide_eq_true c6
   clear c6
   (first | rw [c6b0] | (simp only [i64_w, i32_w]; rw [c6b0]) | skip)
   have H' := Aside0.mk H
   clear H
   have hcz7_0 : w4.cell? ⟨gb254, 0, none⟩ = some (.int .i64 a0_0) := (blk_cell BK254.out 0).trans rfl
   have hcz7_1 : w4.cell? ⟨gb254, 1, none⟩ = some (.string a0_1) := (blk_cell BK254.out 1).trans rfl
   have hcz7_2 : w4.cell? ⟨gb254, 2, none⟩ = some (.int .i32 a0_2) := (blk_cell BK254.out 2).trans rfl
   have hcz7_3 : w4.cell? ⟨gb254, 3, none⟩ = some (.bool a0_3) := (blk_cell BK254.out 3).trans rfl
   have hcz7_4 : w4.cell? ⟨gb254, 4, none⟩ = some (.int .u32 a0_4) := (blk_cell BK254.out 4).trans rfl
   have hfz7_0 := blk_frozen BK254.out 0
   have hfz7_1 := blk_frozen BK254.out 1
   have hfz7_2 := blk_frozen BK254.out 2
   have hfz7_3 := blk_frozen BK254.out 3
   have hfz7_4 := blk_frozen BK254.out 4
   go_wp2
   go_meet
   case rel => exact ⟨_, ((a0_2 == 0 && (!a0_3 && (a0_4 == 0)))), Z2, H', ⟨Z12⟩, ⟨(Z13 BK254)⟩, ⟨Z47⟩⟩
  ·rw [if_neg c6] at H
   have c6b0 : decide (0 < t255) = false := decide_eq_false c6
   clear c6
   (first | rw [c6b0] | (simp only [i64_w, i32_w]; rw [c6b0]) | skip)
   have H' := Aside0.mk H
   clear H
   go_wp2
   go_meet
   case rel => exact ⟨_, (false), Z2, H', ⟨Z12⟩, ⟨(Z13 BK254)⟩, ⟨Z47⟩⟩
 case rest =>
  clear HC3
  try clear p2
  try clear c4
  try clear c6
  try clear c6b0
  try clear c7
  try clear hcz5_0
  try clear hcz5_1
  try clear hcz5_2
  try clear hcz5_3
  try clear hcz5_4
  try clear hcz7_0
  try clear hcz7_1
  try clear hcz7_2
  try clear hcz7_3
  try clear hcz7_4
  try clear hfz5_0
  try clear hfz5_1
  try clear hfz5_2
  try clear hfz5_3
  try clear hfz5_4
  try clear hfz7_0
  try clear hfz7_1
  try clear hfz7_2
  try clear hfz7_3
  try clear hfz7_4
  obtain ⟨kq, x11_2, rfl, HA, HJ2, BK254, HB⟩ := hcut
  cases kq with
  | zero => exact absurd HA.out (by simp [impl_CellsOf.j0])
  | succ kj2 =>
   have H := HA.out
   clear HA
   simp only [impl_CellsOf.j0] at H
   by_cases c8 : x11_2 = true
   ·subst c8
    have H1 : ((impl_Pack.f kj2 a0_1).bind fun t259 => (impl_CellsOf.l0 kj2 t255 (([] : List Int)) t259 (t259.length : Int) 0)) = some r := Z4
    clear H
    have H := H1
    clear H1
    obtain ⟨y256, hy256⟩ : ∃ y_ : List Int, y_ = (([] : List Int)) := ⟨_, rfl⟩
    replace H : ((impl_Pack.f kj2 a0_1).bind fun t259 => (impl_CellsOf.l0 kj2 t255 y256 t259 (t259.length : Int) 0)) = some r := by first | (rw [hy256]; with_reducible exact H) | (have H2_ := (Option.bind_some _ _).symm.trans H; rw [hy256]; with_reducible exact H2_) | (have H2_ := (Option.bind_some _ _).symm.trans H; with_reducible exact H2_) | with_reducible exact H | (rw [hy256]; exact H) | exact H
    have Ny256 := Aside0.mk hy256
    clear hy256
    replace H := Option.bind_eq_some_iff.mp H
    obtain ⟨t259, A90, H⟩ := H
    replace H : (impl_CellsOf.l0 kj2 t255 y256 t259 (t259.length : Int) 0) = some r := H
    have A9 := Aside0.mk A90
    clear A90
    have H' := Aside0.mk H
    clear H
    go_wp2_with (first | ((with_reducible refine gate_dst (N := 23) rfl ?_); refine Kd.R_lit (Kd.int .u32) _ 47 (by rfl) (N := 23) (by rfl) (xs := ([] : List Int)) (inner := []) (ok := fun _ => True) (okp := fun _ => True) Z5 (Reps.none _ _) (fun _ hk => hk) trivial (Below.refl _ _) (Nat.le_refl _) (by simp) ?_; intro v257 w10 ho11 hb hg_ hnew_; clear hg_ hnew_; (first | rw [← Ny256.out] at ho11 | (simp only [Int.reduceToNat] at ho11; rw [← Ny256.out] at ho11)); have HO258 := Z (Kd.R_lower ho11 (below_size Z47)); replace BK254 := Z (blk_below (g := gb254) (o := .cells #[.int .i64 a0_0, .string a0_1, .int .i32 a0_2, .bool a0_3, .int .u32 a0_4] 51 (0, 0)) (Z13 BK254) hb); replace HB := Z (below_step Z47 hb); clear hb ho11; have hcz12_0 : w10.cell? ⟨gb254, 0, none⟩ = some (.int .i64 a0_0) := (blk_cell BK254.out 0).trans rfl; have hcz12_1 : w10.cell? ⟨gb254, 1, none⟩ = some (.string a0_1) := (blk_cell BK254.out 1).trans rfl; have hcz12_2 : w10.cell? ⟨gb254, 2, none⟩ = some (.int .i32 a0_2) := (blk_cell BK254.out 2).trans rfl; have hcz12_3 : w10.cell? ⟨gb254, 3, none⟩ = some (.bool a0_3) := (blk_cell BK254.out 3).trans rfl; have hcz12_4 : w10.cell? ⟨gb254, 4, none⟩ = some (.int .u32 a0_4) := (blk_cell BK254.out 4).trans rfl; have hfz12_0 := blk_frozen BK254.out 0; have hfz12_1 := blk_frozen BK254.out 1; have hfz12_2 := blk_frozen BK254.out 2; have hfz12_3 := blk_frozen BK254.out 3; have hfz12_4 := blk_frozen BK254.out 4) | ((with_reducible refine gate_callee (f := 78) rfl ?_); refine goesL_ (some 26) rfl rfl Try.func78 Z0 rfl #[.string a0_1] rfl Z9 ?_; (with_reducible refine (impl_Pack.calls kj2 a0_1 t259 _ A9.out).mono ?_); rintro e w13 ⟨v260, rfl, ho0, hb⟩; refine ⟨_, rfl, ?_⟩; have HO261 := Z (Kd.R_lower (Kd.R_new' ho0 (Kd.R_lt (Z8 HO258))) (below_size Z47)); replace HO258 := Z (Kd.R_elder' (Z8 HO258) (Kd.R_base ho0) hb); replace BK254 := Z (blk_below (g := gb254) (o := .cells #[.int .i64 a0_0, .string a0_1, .int .i32 a0_2, .bool a0_3, .int .u32 a0_4] 51 (0, 0)) (Z13 BK254) hb); replace HB := Z (below_step Z47 hb); (try clear hb); (try clear hb2); (try clear hk); (try clear hi); (try clear ho0); obtain ⟨Ao14, co14, eo14⟩ := Kd.R_slice HO261.out; subst eo14))
    go_loopg [3, 4, 28] kj2 (fun kq v3 v4 v28 w' => ∃ (x3_2 : Int) (x4_2 : List Int) (x28_2 : Int), v3 = .int .u32 x3_2 ∧ v28 = .int .i64 x28_2 ∧ Aside0 (impl_CellsOf.l0 kq x3_2 x4_2 t259 (t259.length : Int) x28_2 = some r) ∧ Aside0 (kq ≤ kj2) ∧ Aside0 (Kd.R (Kd.int .u32) 47 w' w.heap.size (fun k_ => some k_ ≠ ((.slice Ao14 t259.length co14) : Value).ownBlock) v4 x4_2) ∧ Aside0 (Kd.R (Kd.int .u32) 47 w' w.heap.size (fun k_ => some k_ ≠ (v4 : Value).ownBlock) (.slice Ao14 t259.length co14) t259) ∧ Aside0 (w'.heap[gb254]? = some (.cells #[.int .i64 a0_0, .string a0_1, .int .i32 a0_2, .bool a0_3, .int .u32 a0_4] 51 (0, 0))) ∧ Aside0 (Below w.heap.size w w'))
    case atStart => exact ⟨(t255), (y256), (0), Z2, Z2, H', ⟨Nat.le_refl _⟩, ⟨(Z22 HO258)⟩, ⟨(Z22 HO261)⟩, ⟨(Z13 BK254)⟩, ⟨Z47⟩⟩
    case round =>
     clear H'
     try clear p2
     try clear c4
     try clear c6
     try clear c6b0
     try clear c7
     try clear c8
     try clear hcz12_0
     try clear hcz12_1
     try clear hcz12_2
     try clear hcz12_3
     try clear hcz12_4
     try clear hcz5_0
     try clear hcz5_1
     try clear hcz5_2
     try clear hcz5_3
     try clear hcz5_4
     try clear hcz7_0
     try clear hcz7_1
     try clear hcz7_2
     try clear hcz7_3
     try clear hcz7_4
     try clear hfz12_0
     try clear hfz12_1
     try clear hfz12_2
     try clear hfz12_3
     try clear hfz12_4
     try clear hfz5_0
     try clear hfz5_1
     try clear hfz5_2
     try clear hfz5_3
     try clear hfz5_4
     try clear hfz7_0
     try clear hfz7_1
     try clear hfz7_2
     try clear hfz7_3
     try clear hfz7_4
     try clear p2
     obtain ⟨x3_2, x4_2, x28_2, rfl, rfl, HA, HK2, HO_4, HO_26, BK254, HB⟩ := hrel
     cases gk with
     | zero => exact absurd HA.out (by simp [impl_CellsOf.l0])
     | succ k2 =>
      have H := HA.out
      clear HA
      simp only [impl_CellsOf.l0] at H
      by_cases c15 : x28_2 < (t259.length : Int)
      ·rw [if_pos c15] at H
       have c15b0 : decide (x28_2 < (t259.length : Int)) = true := decide_eq_true c15
       clear c15
       by_cases c16 : 0 ≤ x28_2
       ·rw [if_pos c16] at H
        have c16b0 : decide (0 ≤ x28_2) = true := decide_eq_true c16
        clear c16
        by_cases c17 : x28_2 < (t259.length : Int)
        ·rw [if_pos c17] at H
         have c17b0 : decide (x28_2 < (t259.length : Int)) = true := decide_eq_true c17
         clear c17
         by_cases c18 : x4_2.length < 35184372088832
         ·rw [if_pos c18] at H
          have LMc18 := Aside0.mk c18
          clear c18
          obtain ⟨y263, hy263⟩ : ∃ y_ : List Int, y_ = (x4_2 ++ [Go.bits .or .u32 (((rd t259 x28_2) * 16) % 4294967296) x3_2]) := ⟨_, rfl⟩
          replace H : (impl_CellsOf.l0 k2 0 y263 t259 (t259.length : Int) (wrap64 (x28_2 + 1))) = some r := by first | (rw [hy263]; with_reducible exact H) | (have H2_ := (Option.bind_some _ _).symm.trans H; rw [hy263]; with_reducible exact H2_) | (have H2_ := (Option.bind_some _ _).symm.trans H; with_reducible exact H2_) | with_reducible exact H | (rw [hy263]; exact H) | exact H
          have Ny263 := Aside0.mk hy263
          clear hy263
          have H' := Aside0.mk H
          clear H
          have p262 : 0 ≤ (x28_2 : Int) := of_decide_eq_true Z10
          have q262 : x28_2 < (t259.length : Int) := of_decide_eq_true Z10
          obtain ⟨ad262, e262, hx262_0⟩ := Kd.at_int (Kd.R_reads' HO_26.out).2.2 x28_2 p262 q262
          cases e262
          replace p262 := eq_true p262
          replace q262 := eq_true q262
          go_wp2_with (first | ((with_reducible refine gate_builtin (b := .append) (xs := #[.tmp 32, .tmp 37]) rfl ?_); at_builtin; refine Kd.R_append (Kd.int .u32) (w0 := w) w.heap.size rfl (.tmp 32) (.tmp 37) 24 47 (.int .u32 0) 4 rfl Try.underlying24 info47 rfl (by decide) (by omega) u4 x4_2 (Go.bits .or .u32 (((rd t259 x28_2) * 16) % 4294967296) x3_2) [.int .u32 (Go.bits .or .u32 (((rd t259 x28_2) * 16) % 4294967296) x3_2)] (fun k_ => some k_ ≠ (.slice (some ad262) t259.length co14 : Value).ownBlock) (fun _ => False) rfl rfl ?aP (fun _ hk => hk.elim) ?aF ?aO ?aB ?aS ?aL ?_; (case aP => exact rfl); (case aB => exact Z47); (case aF => exact (fun k_ hk => Kd.fresh' (Kd.R_lt (Z8 HO_26)) k_ hk)); (case aO => exact (Z8 HO_4)); (case aS => exact (below_size Z47)); (case aL => have := LMc18.out; omega); intro v264 w19 ho hb hg hat; rw [← Ny263.out] at ho; replace HO_26 := Z (Kd.R_after (ok := (fun _ => True)) (by (with_reducible repeat (first | apply Kd.R_alloc | apply Kd.R_drewN | apply Kd.R_drew)); exact Kd.R_mono HO_26.out (fun _ hk => ⟨trivial, hk⟩)) hg hat); replace BK254 := Z (blk_grown (g := gb254) (o := .cells #[.int .i64 a0_0, .string a0_1, .int .i32 a0_2, .bool a0_3, .int .u32 a0_4] 51 (0, 0)) (Z13 BK254) hg (Kd.R_ne HO_4.out BK254.out (by decide))); replace HB := Z (hb); have HO265 := Z (ho); clear HO_4; clear ho hb hg hat))
          go_roundg k2
          case measure => have := HJ2.out; have := HK2.out; omega
          case rel => exact ⟨(0), (y263), (wrap64 (x28_2 + 1)), Z2, Z2, H', ⟨by have := HJ2.out; have := HK2.out; omega⟩, ⟨(Z8 HO265)⟩, ⟨(Z22 HO_26)⟩, ⟨(Z13 BK254)⟩, ⟨Z47⟩⟩
         ·rw [if_neg c18] at H
          exact absurd H (by simp)
        ·rw [if_neg c17] at H
         exact absurd H (by simp)
       ·rw [if_neg c16] at H
        exact absurd H (by simp)
      ·rw [if_neg c15] at H
       have c15b0 : decide (x28_2 < (t259.length : Int)) = false := decide_eq_false c15
       clear c15
       obtain rfl := Option.some.inj H
       go_wp2
       go_ret
       exact ⟨_, Z7, (Z14 HO_4), Z47⟩
   ·replace c8 := Bool.eq_false_iff.mpr c8
    subst c8
    have H1 : (if (a0_0 == 7 && (a0_1.toList == ([] : List UInt8) && (a0_4 == 0))) = true then ((impl_numberCells.f a0_2 a0_3 8 2).bind fun t266 => (some t266)) else (if (a0_0 == 8 && (a0_1.toList == ([] : List UInt8) && (a0_4 == 0))) = true then ((impl_numberCells.f a0_2 a0_3 6 5).bind fun t269 => (some t269)) else (if (a0_0 == 9 && (!a0_3 && (a0_4 == 0))) = true then ((impl_Pack.f kj2 a0_1).bind fun t272 => (if (t272.length : Int) = 1 then (if 0 < (t272.length : Int) then (some (([Go.bits .or .u32 (((rd t272 0) * 16) % 4294967296) 12, (a0_2) % 4294967296] : List Int))) else (none)) else (some ([] : List Int)))) else (if (a0_0 == 0 && (a0_1.toList == ([] : List UInt8) && (a0_2 == 0 && (!a0_3)))) = true then (some (([a0_4] : List Int))) else (some ([] : List Int)))))) = some r := by rw [if_neg (show ¬ (false = true) by decide)] at H; exact H
    clear H
    have H := H1
    clear H1
    by_cases c20 : (a0_0 == 7 && (a0_1.toList == ([] : List UInt8) && (a0_4 == 0))) = true
    ·rw [if_pos c20] at H
     have c20b0 : (a0_0 == 7 && (a0_1.toList == ([] : List UInt8) && (a0_4 == 0))) = true := c20
     (try (have c20b1 : (a0_0 == 7 && (a0_1.toList.isEmpty && (a0_4 == 0))) = true := by have h_ : (a0_0 == 7 && (a0_1.toList == ([] : List UInt8) && (a0_4 == 0))) = true := c20; simpa only [List.beq_nil_eq] using h_))
     (try (have c20b2 : decide (a0_0 = 7 && (a0_1.toList == ([] : List UInt8) && (a0_4 == 0))) = true := Z23))
     (try (have c20b3 : (a0_0 == 7 && (a0_1.toList == ([] : List UInt8) && (a0_4 == 0))) = true := Z23))
     clear c20
     replace H := Option.bind_eq_some_iff.mp H
     obtain ⟨t266, A210, H⟩ := H
     replace H : (some t266) = some r := H
     have A21 := Aside0.mk A210
     clear A210
     obtain rfl := Option.some.inj H
     have hcz22_0 : wc.cell? ⟨gb254, 0, none⟩ = some (.int .i64 a0_0) := (blk_cell BK254.out 0).trans rfl
     have hcz22_1 : wc.cell? ⟨gb254, 1, none⟩ = some (.string a0_1) := (blk_cell BK254.out 1).trans rfl
     have hcz22_2 : wc.cell? ⟨gb254, 2, none⟩ = some (.int .i32 a0_2) := (blk_cell BK254.out 2).trans rfl
     have hcz22_3 : wc.cell? ⟨gb254, 3, none⟩ = some (.bool a0_3) := (blk_cell BK254.out 3).trans rfl
     have hcz22_4 : wc.cell? ⟨gb254, 4, none⟩ = some (.int .u32 a0_4) := (blk_cell BK254.out 4).trans rfl
     have hfz22_0 := blk_frozen BK254.out 0
     have hfz22_1 := blk_frozen BK254.out 1
     have hfz22_2 := blk_frozen BK254.out 2
     have hfz22_3 := blk_frozen BK254.out 3
     have hfz22_4 := blk_frozen BK254.out 4
     go_wp2_with (first | ((with_reducible refine gate_callee (f := 79) rfl ?_); refine goesL_ (some 53) rfl rfl Try.func79 Z0 rfl #[.int .i32 a0_2, .bool a0_3, .int .u32 8, .int .u32 2] rfl Z9 ?_; (with_reducible refine (impl_numberCells.calls a0_2 a0_3 8 2 t266 _ A21.out).mono ?_); rintro e w23 ⟨v267, rfl, ho0, hb⟩; refine ⟨_, rfl, ?_⟩; have HO268 := Z (Kd.R_lower ho0 (below_size Z47)); replace BK254 := Z (blk_below (g := gb254) (o := .cells #[.int .i64 a0_0, .string a0_1, .int .i32 a0_2, .bool a0_3, .int .u32 a0_4] 51 (0, 0)) (Z13 BK254) hb); replace HB := Z (below_step Z47 hb); (try clear hb); (try clear hb2); (try clear hk); (try clear hi); (try clear ho0)))
     go_ret
     exact ⟨_, Z7, (Z8 HO268), Z47⟩
    ·rw [if_neg c20] at H
     have c20b0 : (a0_0 == 7 && (a0_1.toList == ([] : List UInt8) && (a0_4 == 0))) = false := Z23
     (try (have c20b1 : (a0_0 == 7 && (a0_1.toList.isEmpty && (a0_4 == 0))) = false := by have h_ : (a0_0 == 7 && (a0_1.toList == ([] : List UInt8) && (a0_4 == 0))) = false := Z23; simpa only [List.beq_nil_eq] using h_))
     (try (have c20b2 : decide (a0_0 = 7 && (a0_1.toList == ([] : List UInt8) && (a0_4 == 0))) = false := Z23))
     (try (have c20b3 : (a0_0 == 7 && (a0_1.toList == ([] : List UInt8) && (a0_4 == 0))) = false := Z23))
     (try (have c20b4 : ¬ (a0_0 = 7 && (a0_1.toList == ([] : List UInt8) && (a0_4 == 0))) := Z23))
     clear c20
     by_cases c24 : (a0_0 == 8 && (a0_1.toList == ([] : List UInt8) && (a0_4 == 0))) = true
     ·rw [if_pos c24] at H
      have c24b0 : (a0_0 == 8 && (a0_1.toList == ([] : List UInt8) && (a0_4 == 0))) = true := c24
      (try (have c24b1 : (a0_0 == 8 && (a0_1.toList.isEmpty && (a0_4 == 0))) = true := by have h_ : (a0_0 == 8 && (a0_1.toList == ([] : List UInt8) && (a0_4 == 0))) = true := c24; simpa only [List.beq_nil_eq] using h_))
      (try (have c24b2 : decide (a0_0 = 8 && (a0_1.toList == ([] : List UInt8) && (a0_4 == 0))) = true := Z24))
      (try (have c24b3 : (a0_0 == 8 && (a0_1.toList == ([] : List UInt8) && (a0_4 == 0))) = true := Z24))
      clear c24
      replace H := Option.bind_eq_some_iff.mp H
      obtain ⟨t269, A250, H⟩ := H
      replace H : (some t269) = some r := H
      have A25 := Aside0.mk A250
      clear A250
      obtain rfl := Option.some.inj H
      have hcz26_0 : wc.cell? ⟨gb254, 0, none⟩ = some (.int .i64 a0_0) := (blk_cell BK254.out 0).trans rfl
      have hcz26_1 : wc.cell? ⟨gb254, 1, none⟩ = some (.string a0_1) := (blk_cell BK254.out 1).trans rfl
      have hcz26_2 : wc.cell? ⟨gb254, 2, none⟩ = some (.int .i32 a0_2) := (blk_cell BK254.out 2).trans rfl
      have hcz26_3 : wc.cell? ⟨gb254, 3, none⟩ = some (.bool a0_3) := (blk_cell BK254.out 3).trans rfl
      have hcz26_4 : wc.cell? ⟨gb254, 4, none⟩ = some (.int .u32 a0_4) := (blk_cell BK254.out 4).trans rfl
      have hfz26_0 := blk_frozen BK254.out 0
      have hfz26_1 := blk_frozen BK254.out 1
      have hfz26_2 := blk_frozen BK254.out 2
      have hfz26_3 := blk_frozen BK254.out 3
      have hfz26_4 := blk_frozen BK254.out 4
      go_wp2_with (first | ((with_reducible refine gate_callee (f := 79) rfl ?_); refine goesL_ (some 66) rfl rfl Try.func79 Z0 rfl #[.int .i32 a0_2, .bool a0_3, .int .u32 6, .int .u32 5] rfl Z9 ?_; (with_reducible refine (impl_numberCells.calls a0_2 a0_3 6 5 t269 _ A25.out).mono ?_); rintro e w27 ⟨v270, rfl, ho0, hb⟩; refine ⟨_, rfl, ?_⟩; have HO271 := Z (Kd.R_lower ho0 (below_size Z47)); replace BK254 := Z (blk_below (g := gb254) (o := .cells #[.int .i64 a0_0, .string a0_1, .int .i32 a0_2, .bool a0_3, .int .u32 a0_4] 51 (0, 0)) (Z13 BK254) hb); replace HB := Z (below_step Z47 hb); (try clear hb); (try clear hb2); (try clear hk); (try clear hi); (try clear ho0)))
      go_ret
      exact ⟨_, Z7, (Z8 HO271), Z47⟩
     ·rw [if_neg c24] at H
      have c24b0 : (a0_0 == 8 && (a0_1.toList == ([] : List UInt8) && (a0_4 == 0))) = false := Z24
      (try (have c24b1 : (a0_0 == 8 && (a0_1.toList.isEmpty && (a0_4 == 0))) = false := by have h_ : (a0_0 == 8 && (a0_1.toList == ([] : List UInt8) && (a0_4 == 0))) = false := Z24; simpa only [List.beq_nil_eq] using h_))
      (try (have c24b2 : decide (a0_0 = 8 && (a0_1.toList == ([] : List UInt8) && (a0_4 == 0))) = false := Z24))
      (try (have c24b3 : (a0_0 == 8 && (a0_1.toList == ([] : List UInt8) && (a0_4 == 0))) = false := Z24))
      (try (have c24b4 : ¬ (a0_0 = 8 && (a0_1.toList == ([] : List UInt8) && (a0_4 == 0))) := Z24))
      clear c24
      by_cases c28 : (a0_0 == 9 && (!a0_3 && (a0_4 == 0))) = true
      ·rw [if_pos c28] at H
       have c28b0 : (a0_0 == 9 && (!a0_3 && (a0_4 == 0))) = true := c28
       (try (have c28b1 : decide (a0_0 = 9 && (!a0_3 && (a0_4 == 0))) = true := by simpa using c28))
       (try (have c28b2 : (a0_0 == 9 && (!a0_3 && (a0_4 == 0))) = true := by simpa using c28))
       clear c28
       replace H := Option.bind_eq_some_iff.mp H
       obtain ⟨t272, A290, H⟩ := H
       replace H : (if (t272.length : Int) = 1 then (if 0 < (t272.length : Int) then (some (([Go.bits .or .u32 (((rd t272 0) * 16) % 4294967296) 12, (a0_2) % 4294967296] : List Int))) else (none)) else (some ([] : List Int))) = some r := H
       have A29 := Aside0.mk A290
       clear A290
       by_cases c30 : (t272.length : Int) = 1
       ·rw [if_pos c30] at H
        have c30b0 : ((t272.length : Int) == 1) = true := beq_iff_eq.mpr c30
        have c30b1 : ((t272.length : Int) != 1) = false := bne_eq_false_iff_eq.mpr c30
        clear c30
        by_cases c31 : 0 < (t272.length : Int)
        ·rw [if_pos c31] at H
         have c31b0 : decide (0 < (t272.length : Int)) = true := decide_eq_true c31
         have c31b1 : decide (0 < t272.length) = true := decide_eq_true (by omega)
         clear c31
         obtain ⟨y276, hy276⟩ : ∃ y_ : List Int, y_ = (([Go.bits .or .u32 (((rd t272 0) * 16) % 4294967296) 12, (a0_2) % 4294967296] : List Int)) := ⟨_, rfl⟩
         replace H : (some y276) = some r := by first | (rw [hy276]; with_reducible exact H) | (have H2_ := (Option.bind_some _ _).symm.trans H; rw [hy276]; with_reducible exact H2_) | (have H2_ := (Option.bind_some _ _).symm.trans H; with_reducible exact H2_) | with_reducible exact H | (rw [hy276]; exact H) | exact H
         have Ny276 := Aside0.mk hy276
         clear hy276
         obtain rfl := Option.some.inj H
         have hcz32_0 : wc.cell? ⟨gb254, 0, none⟩ = some (.int .i64 a0_0) := (blk_cell BK254.out 0).trans rfl
         have hcz32_1 : wc.cell? ⟨gb254, 1, none⟩ = some (.string a0_1) := (blk_cell BK254.out 1).trans rfl
         have hcz32_2 : wc.cell? ⟨gb254, 2, none⟩ = some (.int .i32 a0_2) := (blk_cell BK254.out 2).trans rfl
         have hcz32_3 : wc.cell? ⟨gb254, 3, none⟩ = some (.bool a0_3) := (blk_cell BK254.out 3).trans rfl
         have hcz32_4 : wc.cell? ⟨gb254, 4, none⟩ = some (.int .u32 a0_4) := (blk_cell BK254.out 4).trans rfl
         have hfz32_0 := blk_frozen BK254.out 0
         have hfz32_1 := blk_frozen BK254.out 1
         have hfz32_2 := blk_frozen BK254.out 2
         have hfz32_3 := blk_frozen BK254.out 3
         have hfz32_4 := blk_frozen BK254.out 4
         try go_wp2_with (first | ((with_reducible refine gate_callee (f := 78) rfl ?_); refine goesL_ (some 77) rfl rfl Try.func78 Z0 rfl #[.string a0_1] rfl Z9 ?_; (with_reducible refine (impl_Pack.calls kj2 a0_1 t272 _ A29.out).mono ?_); rintro e w33 ⟨v273, rfl, ho0, hb⟩; refine ⟨_, rfl, ?_⟩; have HO274 := Z (Kd.R_lower ho0 (below_size Z47)); replace BK254 := Z (blk_below (g := gb254) (o := .cells #[.int .i64 a0_0, .string a0_1, .int .i32 a0_2, .bool a0_3, .int .u32 a0_4] 51 (0, 0)) (Z13 BK254) hb); replace HB := Z (below_step Z47 hb); (try clear hb); (try clear hb2); (try clear hk); (try clear hi); (try clear ho0); obtain ⟨Ao34, co34, eo34⟩ := Kd.R_slice HO274.out; subst eo34))
         have n0_ := Z (Kd.R_drew HO274.out)
         have n1_ := Z (blk_drew BK254.out)
         have n2_ := Z (below_drew1 HB.out)
         clear HO274
         clear BK254
         clear HB
         have HO274 := n0_
         have BK254 := n1_
         have HB := n2_
         clear n0_ n1_ n2_
         have p275 : 0 ≤ (0 : Int) := (by omega)
         have q275 : 0 < (t272.length : Int) := of_decide_eq_true Z10
         obtain ⟨ad275, e275, hx275_0⟩ := Kd.at_int (Kd.R_reads' HO274.out).2.2 0 p275 q275
         cases e275
         have qi275 : (0 < t272.length) = True := eq_true (by omega)
         (try rw [show ((0 : Int)).toNat = 0 from rfl] at hx275_0)
         (try rw [Addr.add_zero'] at hx275_0)
         replace p275 := eq_true p275
         replace q275 := eq_true q275
         refine start_ (n := 10) (S := fun w' => w'.cell? ⟨gb254, 0, none⟩ = some (.int .i64 a0_0) ∧ w'.cell? ⟨gb254, 1, none⟩ = some (.string a0_1) ∧ w'.cell? ⟨gb254, 2, none⟩ = some (.int .i32 a0_2) ∧ w'.cell? ⟨gb254, 3, none⟩ = some (.bool a0_3) ∧ w'.cell? ⟨gb254, 4, none⟩ = some (.int .u32 a0_4) ∧ w'.cell? ad275 = some (.int .u32 (rd t272 0))) (ds := []) #[false, false, false, false, false, false, false, false, false, false] Z0 rfl rfl ⟨(blk_cell BK254.out 0).trans rfl, (blk_cell BK254.out 1).trans rfl, (blk_cell BK254.out 2).trans rfl, (blk_cell BK254.out 3).trans rfl, (blk_cell BK254.out 4).trans rfl, hx275_0⟩ (fun hHeld => ?_); refine with_tabW impl_CellsOf.tab18 impl_CellsOf.bits18 (fun HT_ HW_ => ?_)
         generalize w33.drew = w35 at HO274 BK254 HB hx275_0 hHeld ⊢
         refine pure_ (i := 0) (N := some 81) (v := ?_) (a' := ?_) #[true, false, false, false, false, false, false, false, false, false] rfl rfl (any_of HT_.out Z0) (fun _ _ _ h => h) (Or.inl ⟨by rfl, ?_⟩) ?_ ?_
         rotate_left
         ·intro w'
          go_simp
          with_reducible rfl
         rotate_left
         ·simp only [Act.put, List.setIfInBounds_toArray, List.set_cons_zero, List.set_cons_succ, i64_w, i32_w]
          rfl
         refine pure_ (i := 1) (N := some 82) (v := ?_) (a' := ?_) #[true, true, false, false, false, false, false, false, false, false] rfl rfl (any_of HT_.out Z0) (fun _ _ _ h => h) (Or.inl ⟨by rfl, ?_⟩) ?_ ?_
         rotate_left
         ·intro w'
          go_simp
          with_reducible rfl
         rotate_left
         ·simp only [Act.put, List.setIfInBounds_toArray, List.set_cons_zero, List.set_cons_succ, i64_w, i32_w]
          rfl
         refine pure_ (i := 5) (N := some 86) (v := ?_) (a' := ?_) #[true, true, false, false, false, true, false, false, false, false] rfl rfl (any_of HT_.out Z0) (fun _ _ _ h => h) (Or.inl ⟨by rfl, ?_⟩) ?_ ?_
         rotate_left
         ·intro w'
          go_simp
          with_reducible rfl
         rotate_left
         ·simp only [Act.put, List.setIfInBounds_toArray, List.set_cons_zero, List.set_cons_succ, i64_w, i32_w]
          rfl
         refine take_ (i := 2) (N := some 83) (v := ?_) (a' := ?_) #[true, true, true, false, false, true, false, false, false, false] rfl rfl (take_ofW HT_.out HW_.out Z0) (fun _ _ _ h => h) (Or.inl ⟨by rfl, ?_⟩) hHeld ?_ ?_
         rotate_left
         ·rintro w' ⟨s0, s1, s2, s3, s4, s5⟩
          go_simp
          with_reducible rfl
         rotate_left
         ·simp only [Act.put, List.setIfInBounds_toArray, List.set_cons_zero, List.set_cons_succ, i64_w, i32_w]
          rfl
         refine pure_ (i := 3) (N := some 84) (v := ?_) (a' := ?_) #[true, true, true, true, false, true, false, false, false, false] rfl rfl (any_of HT_.out Z0) (fun _ _ _ h => h) (Or.inl ⟨by rfl, ?_⟩) ?_ ?_
         rotate_left
         ·intro w'
          go_simp
          with_reducible rfl
         rotate_left
         ·simp only [Act.put, List.setIfInBounds_toArray, List.set_cons_zero, List.set_cons_succ, i64_w, i32_w]
          rfl
         refine pure_ (i := 4) (N := some 85) (v := ?_) (a' := ?_) #[true, true, true, true, true, true, false, false, false, false] rfl rfl (any_of HT_.out Z0) (fun _ _ _ h => h) (Or.inl ⟨by rfl, ?_⟩) ?_ ?_
         rotate_left
         ·intro w'
          go_simp
          with_reducible rfl
         rotate_left
         ·simp only [Act.put, List.setIfInBounds_toArray, List.set_cons_zero, List.set_cons_succ, i64_w, i32_w]
          rfl
         refine take_ (i := 6) (N := some 87) (v := ?_) (a' := ?_) #[true, true, true, true, true, true, true, false, false, false] rfl rfl (take_ofW HT_.out HW_.out Z0) (fun _ _ _ h => h) (Or.inl ⟨by rfl, ?_⟩) hHeld ?_ ?_
         rotate_left
         ·rintro w' ⟨s0, s1, s2, s3, s4, s5⟩
          go_simp
          with_reducible rfl
         rotate_left
         ·simp only [Act.put, List.setIfInBounds_toArray, List.set_cons_zero, List.set_cons_succ, i64_w, i32_w]
          rfl
         refine pure_ (i := 7) (N := some 88) (v := ?_) (a' := ?_) #[true, true, true, true, true, true, true, true, false, false] rfl rfl (any_of HT_.out Z0) (fun _ _ _ h => h) (Or.inl ⟨by rfl, ?_⟩) ?_ ?_
         rotate_left
         ·intro w'
          go_simp
          with_reducible rfl
         rotate_left
         ·simp only [Act.put, List.setIfInBounds_toArray, List.set_cons_zero, List.set_cons_succ, i64_w, i32_w]
          rfl
         refine one_ (i := 8) (N := some 89) #[true, true, true, true, true, true, true, true, true, false] rfl rfl (one_of HT_.out Z0) (by decide) (fun K hK => ?_)
         refine Kd.R_lit_step (Kd.int .u32) _ 47 ?hg (N := 89) ?hd (xs := ([Go.bits .or .u32 (((rd t272 0) * 16) % 4294967296) 12, (a0_2) % 4294967296] : List Int)) (inner := [.int .u32 (Go.bits .or .u32 (((rd t272 0) * 16) % 4294967296) 12), .int .u32 ((a0_2) % 4294967296)]) (ok := fun _ => True) (okp := fun _ => True) ?hr ?hp (fun _ hk => hk) trivial (Below.refl _ _) (Nat.le_refl _) (by simp) ?_; (case hd => rfl); (case hg => rfl); (case hr => exact Z5); (case hp => exact (Reps.one (show Kd.M (Kd.int .u32) _ _ _ (Go.bits .or .u32 (((rd t272 0) * 16) % 4294967296) 12) [.int .u32 (Go.bits .or .u32 (((rd t272 0) * 16) % 4294967296) 12)] from rfl) (Reps.one (show Kd.M (Kd.int .u32) _ _ _ ((a0_2) % 4294967296) [.int .u32 ((a0_2) % 4294967296)] from rfl) (Reps.none _ _))))
         intro v277 w36 ho37 hb hg_ hnew_
         have HS5_ := (hb.cell (World.block_lt_of_cell? _ _ (hHeld.2.2.2.2.2))).trans (hHeld.2.2.2.2.2)
         clear hg_ hnew_
         (first | rw [← Ny276.out] at ho37 | (simp only [Int.reduceToNat] at ho37; rw [← Ny276.out] at ho37))
         have n0_ := Z (Kd.R_elder' (Z8 HO274) (Kd.R_base ho37) hb)
         have n1_ := Z (Kd.R_lower (Kd.R_new' ho37 (Kd.R_lt (Z8 HO274))) (below_size Z47))
         have n2_ := Z (blk_below (g := gb254) (o := .cells #[.int .i64 a0_0, .string a0_1, .int .i32 a0_2, .bool a0_3, .int .u32 a0_4] 51 (0, 0)) (Z13 BK254) hb)
         have n3_ := Z (below_step Z47 hb)
         clear HO274
         clear BK254
         clear HB
         have HO274 := n0_
         have HO278 := n1_
         have BK254 := n2_
         have HB := n3_
         clear n0_ n1_ n2_ n3_
         clear hb ho37
         refine hK.out _ _ ⟨(blk_cell BK254.out 0).trans rfl, (blk_cell BK254.out 1).trans rfl, (blk_cell BK254.out 2).trans rfl, (blk_cell BK254.out 3).trans rfl, (blk_cell BK254.out 4).trans rfl, HS5_⟩ (fun hHeld => ?_)
         clear hK K
         refine norm_ (a' := ?_) ?_ ?_
         rotate_left
         ·show Act.put _ (some 89) _ = _
          simp only [Act.put, List.setIfInBounds_toArray, List.set_cons_zero, List.set_cons_succ, i64_w, i32_w]
          rfl
         refine pure_ (i := 9) (N := some 2) (v := ?_) (a' := ?_) #[true, true, true, true, true, true, true, true, true, true] rfl rfl (any_of HT_.out Z0) (fun _ _ _ h => h) (Or.inl ⟨by rfl, ?_⟩) ?_ ?_
         rotate_left
         ·intro w'
          go_simp
          with_reducible rfl
         rotate_left
         ·simp only [Act.put, List.setIfInBounds_toArray, List.set_cons_zero, List.set_cons_succ, i64_w, i32_w]
          rfl
         refine done_ (done_of HT_.out Z0) ?_
         try go_wp2
         go_ret
         exact ⟨_, Z7, (Z14 HO278), Z47⟩
        ·rw [if_neg c31] at H
         exact absurd H (by simp)
       ·rw [if_neg c30] at H
        have c30b0 : ((t272.length : Int) == 1) = false := beq_eq_false_iff_ne.mpr c30
        have c30b1 : ((t272.length : Int) != 1) = true := bne_iff_ne.mpr c30
        obtain rfl := Option.some.inj H
        have hcz38_0 : wc.cell? ⟨gb254, 0, none⟩ = some (.int .i64 a0_0) := (blk_cell BK254.out 0).trans rfl
        have hcz38_1 : wc.cell? ⟨gb254, 1, none⟩ = some (.string a0_1) := (blk_cell BK254.out 1).trans rfl
        have hcz38_2 : wc.cell? ⟨gb254, 2, none⟩ = some (.int .i32 a0_2) := (blk_cell BK254.out 2).trans rfl
        have hcz38_3 : wc.cell? ⟨gb254, 3, none⟩ = some (.bool a0_3) := (blk_cell BK254.out 3).trans rfl
        have hcz38_4 : wc.cell? ⟨gb254, 4, none⟩ = some (.int .u32 a0_4) := (blk_cell BK254.out 4).trans rfl
        have hfz38_0 := blk_frozen BK254.out 0
        have hfz38_1 := blk_frozen BK254.out 1
        have hfz38_2 := blk_frozen BK254.out 2
        have hfz38_3 := blk_frozen BK254.out 3
        have hfz38_4 := blk_frozen BK254.out 4
        go_wp2_with (first | ((with_reducible refine gate_callee (f := 78) rfl ?_); refine goesL_ (some 77) rfl rfl Try.func78 Z0 rfl #[.string a0_1] rfl Z9 ?_; (with_reducible refine (impl_Pack.calls kj2 a0_1 t272 _ A29.out).mono ?_); rintro e w39 ⟨v273, rfl, ho0, hb⟩; refine ⟨_, rfl, ?_⟩; have HO274 := Z (Kd.R_lower ho0 (below_size Z47)); replace BK254 := Z (blk_below (g := gb254) (o := .cells #[.int .i64 a0_0, .string a0_1, .int .i32 a0_2, .bool a0_3, .int .u32 a0_4] 51 (0, 0)) (Z13 BK254) hb); replace HB := Z (below_step Z47 hb); (try clear hb); (try clear hb2); (try clear hk); (try clear hi); (try clear ho0); obtain ⟨Ao40, co40, eo40⟩ := Kd.R_slice HO274.out; subst eo40))
        go_ret
        exact ⟨_, Z7, Z25, Z47⟩
      ·rw [if_neg c28] at H
       have c28b0 : (a0_0 == 9 && (!a0_3 && (a0_4 == 0))) = false := by simpa using c28
       (try (have c28b1 : decide (a0_0 = 9 && (!a0_3 && (a0_4 == 0))) = false := by simpa using c28))
       (try (have c28b2 : (a0_0 == 9 && (!a0_3 && (a0_4 == 0))) = false := by simpa using c28))
       (try (have c28b3 : ¬ (a0_0 = 9 && (!a0_3 && (a0_4 == 0))) := by simpa using c28))
       clear c28
       by_cases c41 : (a0_0 == 0 && (a0_1.toList == ([] : List UInt8) && (a0_2 == 0 && (!a0_3)))) = true
       ·rw [if_pos c41] at H
        have c41b0 : (a0_0 == 0 && (a0_1.toList == ([] : List UInt8) && (a0_2 == 0 && (!a0_3)))) = true := c41
        (try (have c41b1 : (a0_0 == 0 && (a0_1.toList.isEmpty && (a0_2 == 0 && (!a0_3)))) = true := by have h_ : (a0_0 == 0 && (a0_1.toList == ([] : List UInt8) && (a0_2 == 0 && (!a0_3)))) = true := c41; simpa only [List.beq_nil_eq] using h_))
        (try (have c41b2 : decide (a0_0 = 0 && (a0_1.toList == ([] : List UInt8) && (a0_2 == 0 && (!a0_3)))) = true := Z26))
        (try (have c41b3 : (a0_0 == 0 && (a0_1.toList == ([] : List UInt8) && (a0_2 == 0 && (!a0_3)))) = true := Z26))
        clear c41
        obtain ⟨y279, hy279⟩ : ∃ y_ : List Int, y_ = (([a0_4] : List Int)) := ⟨_, rfl⟩
        replace H : (some y279) = some r := by first | (rw [hy279]; with_reducible exact H) | (have H2_ := (Option.bind_some _ _).symm.trans H; rw [hy279]; with_reducible exact H2_) | (have H2_ := (Option.bind_some _ _).symm.trans H; with_reducible exact H2_) | with_reducible exact H | (rw [hy279]; exact H) | exact H
        have Ny279 := Aside0.mk hy279
        clear hy279
        obtain rfl := Option.some.inj H
        have hcz42_0 : wc.cell? ⟨gb254, 0, none⟩ = some (.int .i64 a0_0) := (blk_cell BK254.out 0).trans rfl
        have hcz42_1 : wc.cell? ⟨gb254, 1, none⟩ = some (.string a0_1) := (blk_cell BK254.out 1).trans rfl
        have hcz42_2 : wc.cell? ⟨gb254, 2, none⟩ = some (.int .i32 a0_2) := (blk_cell BK254.out 2).trans rfl
        have hcz42_3 : wc.cell? ⟨gb254, 3, none⟩ = some (.bool a0_3) := (blk_cell BK254.out 3).trans rfl
        have hcz42_4 : wc.cell? ⟨gb254, 4, none⟩ = some (.int .u32 a0_4) := (blk_cell BK254.out 4).trans rfl
        have hfz42_0 := blk_frozen BK254.out 0
        have hfz42_1 := blk_frozen BK254.out 1
        have hfz42_2 := blk_frozen BK254.out 2
        have hfz42_3 := blk_frozen BK254.out 3
        have hfz42_4 := blk_frozen BK254.out 4
        go_wp2_with (first | ((with_reducible refine gate_dst (N := 98) rfl ?_); refine Kd.R_lit (Kd.int .u32) _ 47 (by rfl) (N := 98) (by rfl) (xs := ([a0_4] : List Int)) (inner := [.int .u32 a0_4]) (ok := fun _ => True) (okp := fun _ => True) Z5 (Reps.one (show Kd.M (Kd.int .u32) _ _ _ a0_4 [.int .u32 a0_4] from rfl) (Reps.none _ _)) (fun _ hk => hk) trivial (Below.refl _ _) (Nat.le_refl _) (by simp) ?_; intro v280 w43 ho44 hb hg_ hnew_; clear hg_ hnew_; (first | rw [← Ny279.out] at ho44 | (simp only [Int.reduceToNat] at ho44; rw [← Ny279.out] at ho44)); have HO281 := Z (Kd.R_lower ho44 (below_size Z47)); replace BK254 := Z (blk_below (g := gb254) (o := .cells #[.int .i64 a0_0, .string a0_1, .int .i32 a0_2, .bool a0_3, .int .u32 a0_4] 51 (0, 0)) (Z13 BK254) hb); replace HB := Z (below_step Z47 hb); clear hb ho44))
        go_ret
        exact ⟨_, Z7, (Z8 HO281), Z47⟩
       ·rw [if_neg c41] at H
        have c41b0 : (a0_0 == 0 && (a0_1.toList == ([] : List UInt8) && (a0_2 == 0 && (!a0_3)))) = false := Z26
        (try (have c41b1 : (a0_0 == 0 && (a0_1.toList.isEmpty && (a0_2 == 0 && (!a0_3)))) = false := by have h_ : (a0_0 == 0 && (a0_1.toList == ([] : List UInt8) && (a0_2 == 0 && (!a0_3)))) = false := Z26; simpa only [List.beq_nil_eq] using h_))
        (try (have c41b2 : decide (a0_0 = 0 && (a0_1.toList == ([] : List UInt8) && (a0_2 == 0 && (!a0_3)))) = false := Z26))
        (try (have c41b3 : (a0_0 == 0 && (a0_1.toList == ([] : List UInt8) && (a0_2 == 0 && (!a0_3)))) = false := Z26))
        (try (have c41b4 : ¬ (a0_0 = 0 && (a0_1.toList == ([] : List UInt8) && (a0_2 == 0 && (!a0_3)))) := Z26))
        clear c41
        obtain rfl := Option.some.inj H
        have hcz45_0 : wc.cell? ⟨gb254, 0, none⟩ = some (.int .i64 a0_0) := (blk_cell BK254.out 0).trans rfl
        have hcz45_1 : wc.cell? ⟨gb254, 1, none⟩ = some (.string a0_1) := (blk_cell BK254.out 1).trans rfl
        have hcz45_2 : wc.cell? ⟨gb254, 2, none⟩ = some (.int .i32 a0_2) := (blk_cell BK254.out 2).trans rfl
        have hcz45_3 : wc.cell? ⟨gb254, 3, none⟩ = some (.bool a0_3) := (blk_cell BK254.out 3).trans rfl
        have hcz45_4 : wc.cell? ⟨gb254, 4, none⟩ = some (.int .u32 a0_4) := (blk_cell BK254.out 4).trans rfl
        have hfz45_0 := blk_frozen BK254.out 0
        have hfz45_1 := blk_frozen BK254.out 1
        have hfz45_2 := blk_frozen BK254.out 2
        have hfz45_3 := blk_frozen BK254.out 3
        have hfz45_4 := blk_frozen BK254.out 4
        go_wp2
        go_ret
        exact ⟨_, Z7, Z25, Z47⟩

/-! ### impl_ItemOk: function 71 -/
def impl_ItemOk.f (k : Nat) (a0_0 : Int) (a0_1 : ByteArray) (a0_2 : Int) (a0_3 : Bool) (a0_4 : Int) : Option (Bool) := (impl_CellsOf.f k a0_0 a0_1 a0_2 a0_3 a0_4).bind fun t283 => (some (decide ((t283.length : Int) > 0)))
theorem impl_ItemOk.mono : ∀ a0 a1 a2 a3 a4 k, LeO (impl_ItemOk.f k a0 a1 a2 a3 a4) (impl_ItemOk.f (k + 1) a0 a1 a2 a3 a4) := by
 intro a0 a1 a2 a3 a4 k
 unfold impl_ItemOk.f
 repeat' first
   | (with_reducible exact impl_CellsOf.mono _ _ _ _ _ _)
   | (with_reducible exact LeO.refl _)
   | (with_reducible exact LeO.none _)
   | (with_reducible refine LeO.ite ?_ ?_)
   | (with_reducible refine LeO.bind ?_ (fun _ => ?_))
   | exact impl_CellsOf.mono _ _ _ _ _ _
   | exact LeO.none _
   | refine LeO.ite ?_ ?_
   | refine LeO.bind ?_ (fun _ => ?_)
set_option maxHeartbeats 8000000 in
set_option maxRecDepth 100000 in
theorem impl_ItemOk.calls (k : Nat) (a0_0 : Int) (a0_1 : ByteArray) (a0_2 : Int) (a0_3 : Bool) (a0_4 : Int) (r : Bool) (w : World) (h : impl_ItemOk.f k a0_0 a0_1 a0_2 a0_3 a0_4 = some r) :
  Calls Try.prog 71 #[.agg #[.int .i64 a0_0, .string a0_1, .int .i32 a0_2, .bool a0_3, .int .u32 a0_4]] w fun e w' => e = .returned (.bool r) ∧ Below w.heap.size w w' := by
 have hu51 := Try.underlying51
 have HB := Z (Below.refl w.heap.size w)
 have H : ((impl_CellsOf.f k a0_0 a0_1 a0_2 a0_3 a0_4).bind fun t283 => (some (decide ((t283.length : Int) > 0)))) = some r := h
 clear h
 replace H := Option.bind_eq_some_iff.mp H
 obtain ⟨t283, A20, H⟩ := H
 replace H : (some (decide ((t283.length : Int) > 0))) = some r := H
 have A2 := Aside0.mk A20
 clear A20
 obtain rfl := Option.some.inj H
 go_enter Try.func71, Try.ntmps71
 go_wp2_with (first | ((with_reducible refine gate_dst (N := 1) rfl ?_); refine box_event (by rfl) (N := 1) (by rfl) (cs := #[.int .i64 a0_0, .string a0_1, .int .i32 a0_2, .bool a0_3, .int .u32 a0_4]) (t := 51) Z5 ?_; intro gb282 hg w3 hbox hb; have BK282 := Z (hbox); have GW282 := Z ((Z66 : w.heap.size ≤ gb282)); have GE282 := Z ((Z66 : w.heap.size ≤ gb282)); replace HB := Z (below_step Z47 hb); clear hb hbox hg; have hcz4_0 : w3.cell? ⟨gb282, 0, none⟩ = some (.int .i64 a0_0) := (blk_cell BK282.out 0).trans rfl; have hcz4_1 : w3.cell? ⟨gb282, 1, none⟩ = some (.string a0_1) := (blk_cell BK282.out 1).trans rfl; have hcz4_2 : w3.cell? ⟨gb282, 2, none⟩ = some (.int .i32 a0_2) := (blk_cell BK282.out 2).trans rfl; have hcz4_3 : w3.cell? ⟨gb282, 3, none⟩ = some (.bool a0_3) := (blk_cell BK282.out 3).trans rfl; have hcz4_4 : w3.cell? ⟨gb282, 4, none⟩ = some (.int .u32 a0_4) := (blk_cell BK282.out 4).trans rfl; have hfz4_0 := blk_frozen BK282.out 0; have hfz4_1 := blk_frozen BK282.out 1; have hfz4_2 := blk_frozen BK282.out 2; have hfz4_3 := blk_frozen BK282.out 3; have hfz4_4 := blk_frozen BK282.out 4) | ((with_reducible refine gate_callee (f := 43) rfl ?_); refine goesL_ (some 4) rfl rfl Try.func43 Z0 rfl #[.agg #[.int .i64 a0_0, .string a0_1, .int .i32 a0_2, .bool a0_3, .int .u32 a0_4]] rfl Z9 ?_; (with_reducible refine (impl_CellsOf.calls k a0_0 a0_1 a0_2 a0_3 a0_4 t283 _ A2.out).mono ?_); rintro e w5 ⟨v284, rfl, ho0, hb⟩; refine ⟨_, rfl, ?_⟩; have HO285 := Z (Kd.R_lower ho0 (below_size Z47)); replace BK282 := Z (blk_below (g := gb282) (o := .cells #[.int .i64 a0_0, .string a0_1, .int .i32 a0_2, .bool a0_3, .int .u32 a0_4] 51 (0, 0)) (Z13 BK282) hb); replace HB := Z (below_step Z47 hb); (try clear hb); (try clear hb2); (try clear hk); (try clear hi); (try clear ho0); obtain ⟨Ao6, co6, eo6⟩ := Kd.R_slice HO285.out; subst eo6))
 go_ret
 exact ⟨Z7, Z47⟩

end Go.Proofs.Ytkkiibjnpkjijaa.QFnColor
