/-
Plain functions for the Go functions that a law reaches, each with a proof that the translation's call comes to just that; no conditions beyond those written in each.
-/
import Derived.Test.YtkkiibjnpkjijaaSFnExactListOk
import Derived.Test.YtkkiibjnpkjijaaQFnExactListOkx1
import Derived.Test.YtkkiibjnpkjijaaQFnExactListOkx2
namespace Go.Proofs.Ytkkiibjnpkjijaa.QFnExactListOk
open Go.RowKit Go.Proofs.YtkkiibjnpkjijaaW.PrintWords Go.Proofs.YtkkiibjnpkjijaaW.PrintLast Go.Proofs.YtkkiibjnpkjijaaW.PrintMore
attribute [local go_sem] max2_int min2_int max_two min_two max_three min_three max_four min_four   -- for this text's walks alone
set_option linter.unusedVariables false
set_option linter.unusedSimpArgs false

attribute [local go_sem high] eqA51
/-! ### impl_CellsOf: function 43 -/
mutual
def impl_CellsOf.j0 : Nat → Int → Bool → Int → ByteArray → Int → Bool → Int → Option (List Int)
 | 0, _, _, _, _, _, _, _ => none
 | k + 1, x3, x11, x143000, x143001, x143002, x143003, x143004 => if x11 = true then ((impl_Pack.f k x143001).bind fun t147 => (impl_CellsOf.l0 k x3 (([] : List Int)) t147 (t147.length : Int) 0)) else (if (x143000 == 7 && (x143001.toList == ([] : List UInt8) && (x143004 == 0))) = true then ((impl_numberCells.f x143002 x143003 8 2).bind fun t154 => (some t154)) else (if (x143000 == 8 && (x143001.toList == ([] : List UInt8) && (x143004 == 0))) = true then ((impl_numberCells.f x143002 x143003 6 5).bind fun t157 => (some t157)) else (if (x143000 == 9 && (!x143003 && (x143004 == 0))) = true then ((impl_Pack.f k x143001).bind fun t160 => (if (t160.length : Int) = 1 then (if 0 < (t160.length : Int) then (some (([Go.bits .or .u32 (((rd t160 0) * 16) % 4294967296) 12, (x143002) % 4294967296] : List Int))) else (none)) else (some ([] : List Int)))) else (if (x143000 == 0 && (x143001.toList == ([] : List UInt8) && (x143002 == 0 && (!x143003)))) = true then (some (([x143004] : List Int))) else (some ([] : List Int))))))
def impl_CellsOf.l0 : Nat → Int → List Int → List Int → Int → Int → Option (List Int)
 | 0, _, _, _, _, _ => none
 | k + 1, x3, x4, x26, x27, x28 => if x28 < x27 then (if 0 ≤ x28 then (if x28 < (x26.length : Int) then (if x4.length < 35184372088832 then (impl_CellsOf.l0 k 0 (x4 ++ [Go.bits .or .u32 (((rd x26 x28) * 16) % 4294967296) x3]) x26 x27 (wrap64 (x28 + 1))) else (none)) else (none)) else (none)) else (some x4)
end
def impl_CellsOf.f (k : Nat) (a0_0 : Int) (a0_1 : ByteArray) (a0_2 : Int) (a0_3 : Bool) (a0_4 : Int) : Option (List Int) := (impl_nameTag.f a0_0).bind fun t143 => (if t143 > 0 then (impl_CellsOf.j0 k t143 (a0_2 == 0 && (!a0_3 && (a0_4 == 0))) a0_0 a0_1 a0_2 a0_3 a0_4) else (impl_CellsOf.j0 k t143 false a0_0 a0_1 a0_2 a0_3 a0_4))
theorem impl_CellsOf.mono_l : ∀ k, (∀ y0 y1 y2 y3 y4 y5 y6, LeO (impl_CellsOf.j0 k y0 y1 y2 y3 y4 y5 y6) (impl_CellsOf.j0 (k + 1) y0 y1 y2 y3 y4 y5 y6)) ∧ (∀ y0 y1 y2 y3 y4, LeO (impl_CellsOf.l0 k y0 y1 y2 y3 y4) (impl_CellsOf.l0 (k + 1) y0 y1 y2 y3 y4))
 | 0 => ⟨fun _ _ _ _ _ _ _ r h => by simp [impl_CellsOf.j0] at h, fun _ _ _ _ _ r h => by simp [impl_CellsOf.l0] at h⟩
 | k + 1 => by
  obtain ⟨ih0, ih1⟩ := impl_CellsOf.mono_l k
  refine ⟨?_, ?_⟩
  ·intro y0 y1 y2 y3 y4 y5 y6
   unfold impl_CellsOf.j0
   repeat' first
   | (with_reducible exact ih0 _ _ _ _ _ _ _)
   | (with_reducible exact ih1 _ _ _ _ _)
   | (with_reducible exact impl_Pack.mono _ _)
   | (with_reducible exact LeO.refl _)
   | (with_reducible exact LeO.none _)
   | (with_reducible refine LeO.ite ?_ ?_)
   | (with_reducible refine LeO.bind ?_ (fun _ => ?_))
   | exact ih0 _ _ _ _ _ _ _
   | exact ih1 _ _ _ _ _
   | exact impl_Pack.mono _ _
   | exact LeO.none _
   | refine LeO.ite ?_ ?_
   | refine LeO.bind ?_ (fun _ => ?_)
  ·intro y0 y1 y2 y3 y4
   unfold impl_CellsOf.l0
   repeat' first
   | (with_reducible exact ih0 _ _ _ _ _ _ _)
   | (with_reducible exact ih1 _ _ _ _ _)
   | (with_reducible exact impl_Pack.mono _ _)
   | (with_reducible exact LeO.refl _)
   | (with_reducible exact LeO.none _)
   | (with_reducible refine LeO.ite ?_ ?_)
   | (with_reducible refine LeO.bind ?_ (fun _ => ?_))
   | exact ih0 _ _ _ _ _ _ _
   | exact ih1 _ _ _ _ _
   | exact impl_Pack.mono _ _
   | exact LeO.none _
   | refine LeO.ite ?_ ?_
   | refine LeO.bind ?_ (fun _ => ?_)
theorem impl_CellsOf.mono : ∀ a0 a1 a2 a3 a4 k, LeO (impl_CellsOf.f k a0 a1 a2 a3 a4) (impl_CellsOf.f (k + 1) a0 a1 a2 a3 a4) := by
 intro a0 a1 a2 a3 a4 k
 obtain ⟨ih0, ih1⟩ := impl_CellsOf.mono_l k
 unfold impl_CellsOf.f
 repeat' first
   | (with_reducible exact ih0 _ _ _ _ _ _ _)
   | (with_reducible exact ih1 _ _ _ _ _)
   | (with_reducible exact impl_Pack.mono _ _)
   | (with_reducible exact LeO.refl _)
   | (with_reducible exact LeO.none _)
   | (with_reducible refine LeO.ite ?_ ?_)
   | (with_reducible refine LeO.bind ?_ (fun _ => ?_))
   | exact ih0 _ _ _ _ _ _ _
   | exact ih1 _ _ _ _ _
   | exact impl_Pack.mono _ _
   | exact LeO.none _
   | refine LeO.ite ?_ ?_
   | refine LeO.bind ?_ (fun _ => ?_)
def impl_CellsOf.T18 : Bool × List (List Nat × List Nat) := (true, [([], []), ([0], [0]), ([1], [1]), ([2], [2]), ([3], [3]), ([], []), ([5], [5]), ([6], [6]), ([4, 7], [4, 7]), ([8, 0, 1, 2, 3, 4, 5, 6, 7, 8], [8])])
def impl_CellsOf.B18 : List Nat := [0, 1, 3, 7, 15, 0, 32, 96, 255, 511]
theorem impl_CellsOf.tab18 : rtab .any (opsOf Try.f43 18) = impl_CellsOf.T18 := Z0
theorem impl_CellsOf.bits18 : waitsOk impl_CellsOf.T18.2 impl_CellsOf.B18 = true := Z0
set_option maxHeartbeats 8000000 in
set_option maxRecDepth 100000 in
theorem impl_CellsOf.calls (k : Nat) (a0_0 : Int) (a0_1 : ByteArray) (a0_2 : Int) (a0_3 : Bool) (a0_4 : Int) (r : List Int) (w : World) (h : impl_CellsOf.f k a0_0 a0_1 a0_2 a0_3 a0_4 = some r) :
  Calls Try.prog 43 #[.agg #[.int .i64 a0_0, .string a0_1, .int .i32 a0_2, .bool a0_3, .int .u32 a0_4]] w fun e w' => ∃ v0_ : Value, e = .returned (v0_) ∧ Kd.R (Kd.int .u32) 47 w' w.heap.size (fun _ => True) v0_ r ∧ Below w.heap.size w w' := by
 have hu51 := Try.underlying51
 have HB := Z (Below.refl w.heap.size w)
 have H : ((impl_nameTag.f a0_0).bind fun t143 => (if t143 > 0 then (impl_CellsOf.j0 k t143 (a0_2 == 0 && (!a0_3 && (a0_4 == 0))) a0_0 a0_1 a0_2 a0_3 a0_4) else (impl_CellsOf.j0 k t143 false a0_0 a0_1 a0_2 a0_3 a0_4))) = some r := h
 clear h
 replace H := Option.bind_eq_some_iff.mp H
 obtain ⟨t143, A20, H⟩ := H
 replace H : (if t143 > 0 then (impl_CellsOf.j0 k t143 (a0_2 == 0 && (!a0_3 && (a0_4 == 0))) a0_0 a0_1 a0_2 a0_3 a0_4) else (impl_CellsOf.j0 k t143 false a0_0 a0_1 a0_2 a0_3 a0_4)) = some r := H
 have A2 := Aside0.mk A20
 clear A20
 have HC3 := Aside0.mk H
 clear H
 go_enter Try.func43, Try.ntmps43
 go_upto_region 2 with (first | ((with_reducible refine gate_dst (N := 1) rfl ?_); refine box_event (by rfl) (N := 1) (by rfl) (cs := #[.int .i64 a0_0, .string a0_1, .int .i32 a0_2, .bool a0_3, .int .u32 a0_4]) (t := 51) Z10 ?_; intro gb142 hg w4 hbox hb; have BK142 := Z (hbox); have GW142 := Z ((Z75 : w.heap.size ≤ gb142)); have GE142 := Z ((Z75 : w.heap.size ≤ gb142)); replace HB := Z (below_step Z61 hb); clear hb hbox hg; have hcz5_0 : w4.cell? ⟨gb142, 0, none⟩ = some (.int .i64 a0_0) := (blk_cell BK142.out 0).trans rfl; have hcz5_1 : w4.cell? ⟨gb142, 1, none⟩ = some (.string a0_1) := (blk_cell BK142.out 1).trans rfl; have hcz5_2 : w4.cell? ⟨gb142, 2, none⟩ = some (.int .i32 a0_2) := (blk_cell BK142.out 2).trans rfl; have hcz5_3 : w4.cell? ⟨gb142, 3, none⟩ = some (.bool a0_3) := (blk_cell BK142.out 3).trans rfl; have hcz5_4 : w4.cell? ⟨gb142, 4, none⟩ = some (.int .u32 a0_4) := (blk_cell BK142.out 4).trans rfl; have hfz5_0 := blk_frozen BK142.out 0; have hfz5_1 := blk_frozen BK142.out 1; have hfz5_2 := blk_frozen BK142.out 2; have hfz5_3 := blk_frozen BK142.out 3; have hfz5_4 := blk_frozen BK142.out 4) | ((with_reducible refine gate_callee (f := 70) rfl ?_); refine goesL_ (some 10) rfl rfl Try.func70 Z0 rfl #[.int .i64 a0_0] rfl Z4 ?_; (with_reducible refine (impl_nameTag.calls a0_0 t143 _ A2.out).mono ?_); rintro e w' ⟨rfl, ⟨nd, rfl⟩⟩; refine ⟨_, rfl, ?_⟩))
 (try simp only [Act.put, List.setIfInBounds_toArray, List.set_cons_zero, List.set_cons_succ])
 go_cut [11] (fun v11 wc => ∃ (kq : Nat) (x11_2 : Bool), v11 = .bool x11_2 ∧ Aside0 (impl_CellsOf.j0 kq t143 x11_2 a0_0 a0_1 a0_2 a0_3 a0_4 = some r) ∧ Aside0 (kq ≤ k) ∧ Aside0 (wc.heap[gb142]? = some (.cells #[.int .i64 a0_0, .string a0_1, .int .i32 a0_2, .bool a0_3, .int .u32 a0_4] 51 (0, 0))) ∧ Aside0 (Below w.heap.size w wc))
 case first =>
  have H := HC3.out
  clear HC3
  by_cases c6 : t143 > 0
  ·rw [if_pos c6] at H
   have c6b0 : decide (0 < t143) = true := decide_eq_true c6
   clear c6
   (first | rw [c6b0] | (simp only [i64_w, i32_w]; rw [c6b0]) | skip)
   have H' := Aside0.mk H
   clear H
   have hcz7_0 : w4.cell? ⟨gb142, 0, none⟩ = some (.int .i64 a0_0) := (blk_cell BK142.out 0).trans rfl
   have hcz7_1 : w4.cell? ⟨gb142, 1, none⟩ = some (.string a0_1) := (blk_cell BK142.out 1).trans rfl
   have hcz7_2 : w4.cell? ⟨gb142, 2, none⟩ = some (.int .i32 a0_2) := (blk_cell BK142.out 2).trans rfl
   have hcz7_3 : w4.cell? ⟨gb142, 3, none⟩ = some (.bool a0_3) := (blk_cell BK142.out 3).trans rfl
   have hcz7_4 : w4.cell? ⟨gb142, 4, none⟩ = some (.int .u32 a0_4) := (blk_cell BK142.out 4).trans rfl
   have hfz7_0 := blk_frozen BK142.out 0
   have hfz7_1 := blk_frozen BK142.out 1
   have hfz7_2 := blk_frozen BK142.out 2
   have hfz7_3 := blk_frozen BK142.out 3
   have hfz7_4 := blk_frozen BK142.out 4
   go_wp2
   go_meet
   case rel => exact ⟨_, ((a0_2 == 0 && (!a0_3 && (a0_4 == 0)))), Z2, H', ⟨Z14⟩, ⟨(Z15 BK142)⟩, ⟨Z61⟩⟩
  ·rw [if_neg c6] at H
   have c6b0 : decide (0 < t143) = false := decide_eq_false c6
   clear c6
   (first | rw [c6b0] | (simp only [i64_w, i32_w]; rw [c6b0]) | skip)
   have H' := Aside0.mk H
   clear H
   go_wp2
   go_meet
   case rel => exact ⟨_, (false), Z2, H', ⟨Z14⟩, ⟨(Z15 BK142)⟩, ⟨Z61⟩⟩
 case rest =>
  clear HC3
  try clear p2
  try clear c4
  try clear c6
  try clear c6b0
  try clear c7
  try clear hcz5_0
  try clear hcz5_1
  try clear hcz5_2
  try clear hcz5_3
  try clear hcz5_4
  try clear hcz7_0
  try clear hcz7_1
  try clear hcz7_2
  try clear hcz7_3
  try clear hcz7_4
  try clear hfz5_0
  try clear hfz5_1
  try clear hfz5_2
  try clear hfz5_3
  try clear hfz5_4
  try clear hfz7_0
  try clear hfz7_1
  try clear hfz7_2
  try clear hfz7_3
  try clear hfz7_4
  obtain ⟨kq, x11_2, rfl, HA, HJ2, BK142, HB⟩ := hcut
  cases kq with
  | zero => exact absurd HA.out (by simp [impl_CellsOf.j0])
  | succ kj2 =>
   have H := HA.out
   clear HA
   simp only [impl_CellsOf.j0] at H
   by_cases c8 : x11_2 = true
   ·subst c8
    have H1 : ((impl_Pack.f kj2 a0_1).bind fun t147 => (impl_CellsOf.l0 kj2 t143 (([] : List Int)) t147 (t147.length : Int) 0)) = some r := Z7
    clear H
    have H := H1
    clear H1
    obtain ⟨y144, hy144⟩ : ∃ y_ : List Int, y_ = (([] : List Int)) := ⟨_, rfl⟩
    replace H : ((impl_Pack.f kj2 a0_1).bind fun t147 => (impl_CellsOf.l0 kj2 t143 y144 t147 (t147.length : Int) 0)) = some r := by first | (rw [hy144]; with_reducible exact H) | (have H2_ := (Option.bind_some _ _).symm.trans H; rw [hy144]; with_reducible exact H2_) | (have H2_ := (Option.bind_some _ _).symm.trans H; with_reducible exact H2_) | with_reducible exact H | (rw [hy144]; exact H) | exact H
    have Ny144 := Aside0.mk hy144
    clear hy144
    replace H := Option.bind_eq_some_iff.mp H
    obtain ⟨t147, A90, H⟩ := H
    replace H : (impl_CellsOf.l0 kj2 t143 y144 t147 (t147.length : Int) 0) = some r := H
    have A9 := Aside0.mk A90
    clear A90
    have H' := Aside0.mk H
    clear H
    go_wp2_with (first | ((with_reducible refine gate_dst (N := 23) rfl ?_); refine Kd.R_lit (Kd.int .u32) _ 47 (by rfl) (N := 23) (by rfl) (xs := ([] : List Int)) (inner := []) (ok := fun _ => True) (okp := fun _ => True) Z10 (Reps.none _ _) (fun _ hk => hk) trivial (Below.refl _ _) (Nat.le_refl _) (by simp) ?_; intro v145 w10 ho11 hb hg_ hnew_; clear hg_ hnew_; (first | rw [← Ny144.out] at ho11 | (simp only [Int.reduceToNat] at ho11; rw [← Ny144.out] at ho11)); have HO146 := Z (Kd.R_lower ho11 (below_size Z61)); replace BK142 := Z (blk_below (g := gb142) (o := .cells #[.int .i64 a0_0, .string a0_1, .int .i32 a0_2, .bool a0_3, .int .u32 a0_4] 51 (0, 0)) (Z15 BK142) hb); replace HB := Z (below_step Z61 hb); clear hb ho11; have hcz12_0 : w10.cell? ⟨gb142, 0, none⟩ = some (.int .i64 a0_0) := (blk_cell BK142.out 0).trans rfl; have hcz12_1 : w10.cell? ⟨gb142, 1, none⟩ = some (.string a0_1) := (blk_cell BK142.out 1).trans rfl; have hcz12_2 : w10.cell? ⟨gb142, 2, none⟩ = some (.int .i32 a0_2) := (blk_cell BK142.out 2).trans rfl; have hcz12_3 : w10.cell? ⟨gb142, 3, none⟩ = some (.bool a0_3) := (blk_cell BK142.out 3).trans rfl; have hcz12_4 : w10.cell? ⟨gb142, 4, none⟩ = some (.int .u32 a0_4) := (blk_cell BK142.out 4).trans rfl; have hfz12_0 := blk_frozen BK142.out 0; have hfz12_1 := blk_frozen BK142.out 1; have hfz12_2 := blk_frozen BK142.out 2; have hfz12_3 := blk_frozen BK142.out 3; have hfz12_4 := blk_frozen BK142.out 4) | ((with_reducible refine gate_callee (f := 78) rfl ?_); refine goesL_ (some 26) rfl rfl Try.func78 Z0 rfl #[.string a0_1] rfl Z4 ?_; (with_reducible refine (impl_Pack.calls kj2 a0_1 t147 _ A9.out).mono ?_); rintro e w13 ⟨v148, rfl, ho0, hb⟩; refine ⟨_, rfl, ?_⟩; have HO149 := Z (Kd.R_lower (Kd.R_new' ho0 (Kd.R_lt (Z12 HO146))) (below_size Z61)); replace HO146 := Z (Kd.R_elder' (Z12 HO146) (Kd.R_base ho0) hb); replace BK142 := Z (blk_below (g := gb142) (o := .cells #[.int .i64 a0_0, .string a0_1, .int .i32 a0_2, .bool a0_3, .int .u32 a0_4] 51 (0, 0)) (Z15 BK142) hb); replace HB := Z (below_step Z61 hb); (try clear hb); (try clear hb2); (try clear hk); (try clear hi); (try clear ho0); obtain ⟨Ao14, co14, eo14⟩ := Kd.R_slice HO149.out; subst eo14))
    go_loopg [3, 4, 28] kj2 (fun kq v3 v4 v28 w' => ∃ (x3_2 : Int) (x4_2 : List Int) (x28_2 : Int), v3 = .int .u32 x3_2 ∧ v28 = .int .i64 x28_2 ∧ Aside0 (impl_CellsOf.l0 kq x3_2 x4_2 t147 (t147.length : Int) x28_2 = some r) ∧ Aside0 (kq ≤ kj2) ∧ Aside0 (Kd.R (Kd.int .u32) 47 w' w.heap.size (fun k_ => some k_ ≠ ((.slice Ao14 t147.length co14) : Value).ownBlock) v4 x4_2) ∧ Aside0 (Kd.R (Kd.int .u32) 47 w' w.heap.size (fun k_ => some k_ ≠ (v4 : Value).ownBlock) (.slice Ao14 t147.length co14) t147) ∧ Aside0 (w'.heap[gb142]? = some (.cells #[.int .i64 a0_0, .string a0_1, .int .i32 a0_2, .bool a0_3, .int .u32 a0_4] 51 (0, 0))) ∧ Aside0 (Below w.heap.size w w'))
    case atStart => exact ⟨(t143), (y144), (0), Z2, Z2, H', ⟨Nat.le_refl _⟩, ⟨(Z16 HO146)⟩, ⟨(Z16 HO149)⟩, ⟨(Z15 BK142)⟩, ⟨Z61⟩⟩
    case round =>
     clear H'
     try clear p2
     try clear c4
     try clear c6
     try clear c6b0
     try clear c7
     try clear c8
     try clear hcz12_0
     try clear hcz12_1
     try clear hcz12_2
     try clear hcz12_3
     try clear hcz12_4
     try clear hcz5_0
     try clear hcz5_1
     try clear hcz5_2
     try clear hcz5_3
     try clear hcz5_4
     try clear hcz7_0
     try clear hcz7_1
     try clear hcz7_2
     try clear hcz7_3
     try clear hcz7_4
     try clear hfz12_0
     try clear hfz12_1
     try clear hfz12_2
     try clear hfz12_3
     try clear hfz12_4
     try clear hfz5_0
     try clear hfz5_1
     try clear hfz5_2
     try clear hfz5_3
     try clear hfz5_4
     try clear hfz7_0
     try clear hfz7_1
     try clear hfz7_2
     try clear hfz7_3
     try clear hfz7_4
     try clear p2
     obtain ⟨x3_2, x4_2, x28_2, rfl, rfl, HA, HK2, HO_4, HO_26, BK142, HB⟩ := hrel
     cases gk with
     | zero => exact absurd HA.out (by simp [impl_CellsOf.l0])
     | succ k2 =>
      have H := HA.out
      clear HA
      simp only [impl_CellsOf.l0] at H
      by_cases c15 : x28_2 < (t147.length : Int)
      ·rw [if_pos c15] at H
       have c15b0 : decide (x28_2 < (t147.length : Int)) = true := decide_eq_true c15
       clear c15
       by_cases c16 : 0 ≤ x28_2
       ·rw [if_pos c16] at H
        have c16b0 : decide (0 ≤ x28_2) = true := decide_eq_true c16
        clear c16
        by_cases c17 : x28_2 < (t147.length : Int)
        ·rw [if_pos c17] at H
         have c17b0 : decide (x28_2 < (t147.length : Int)) = true := decide_eq_true c17
         clear c17
         by_cases c18 : x4_2.length < 35184372088832
         ·rw [if_pos c18] at H
          have LMc18 := Aside0.mk c18
          clear c18
          obtain ⟨y151, hy151⟩ : ∃ y_ : List Int, y_ = (x4_2 ++ [Go.bits .or .u32 (((rd t147 x28_2) * 16) % 4294967296) x3_2]) := ⟨_, rfl⟩
          replace H : (impl_CellsOf.l0 k2 0 y151 t147 (t147.length : Int) (wrap64 (x28_2 + 1))) = some r := by first | (rw [hy151]; with_reducible exact H) | (have H2_ := (Option.bind_some _ _).symm.trans H; rw [hy151]; with_reducible exact H2_) | (have H2_ := (Option.bind_some _ _).symm.trans H; with_reducible exact H2_) | with_reducible exact H | (rw [hy151]; exact H) | exact H
          have Ny151 := Aside0.mk hy151
          clear hy151
          have H' := Aside0.mk H
          clear H
          have p150 : 0 ≤ (x28_2 : Int) := of_decide_eq_true Z5
          have q150 : x28_2 < (t147.length : Int) := of_decide_eq_true Z5
          obtain ⟨ad150, e150, hx150_0⟩ := Kd.at_int (Kd.R_reads' HO_26.out).2.2 x28_2 p150 q150
          cases e150
          replace p150 := eq_true p150
          replace q150 := eq_true q150
          go_wp2_with (first | ((with_reducible refine gate_builtin (b := .append) (xs := #[.tmp 32, .tmp 37]) rfl ?_); at_builtin; refine Kd.R_append (Kd.int .u32) (w0 := w) w.heap.size rfl (.tmp 32) (.tmp 37) 24 47 (.int .u32 0) 4 rfl Try.underlying24 info47 rfl (by decide) (by omega) u4 x4_2 (Go.bits .or .u32 (((rd t147 x28_2) * 16) % 4294967296) x3_2) [.int .u32 (Go.bits .or .u32 (((rd t147 x28_2) * 16) % 4294967296) x3_2)] (fun k_ => some k_ ≠ (.slice (some ad150) t147.length co14 : Value).ownBlock) (fun _ => False) rfl rfl ?aP (fun _ hk => hk.elim) ?aF ?aO ?aB ?aS ?aL ?_; (case aP => exact rfl); (case aB => exact Z61); (case aF => exact (fun k_ hk => Kd.fresh' (Kd.R_lt (Z12 HO_26)) k_ hk)); (case aO => exact (Z12 HO_4)); (case aS => exact (below_size Z61)); (case aL => have := LMc18.out; omega); intro v152 w19 ho hb hg hat; rw [← Ny151.out] at ho; replace HO_26 := Z (Kd.R_after (ok := (fun _ => True)) (by (with_reducible repeat (first | apply Kd.R_alloc | apply Kd.R_drewN | apply Kd.R_drew)); exact Kd.R_mono HO_26.out (fun _ hk => ⟨trivial, hk⟩)) hg hat); replace BK142 := Z (blk_grown (g := gb142) (o := .cells #[.int .i64 a0_0, .string a0_1, .int .i32 a0_2, .bool a0_3, .int .u32 a0_4] 51 (0, 0)) (Z15 BK142) hg (Kd.R_ne HO_4.out BK142.out (by decide))); replace HB := Z (hb); have HO153 := Z (ho); clear HO_4; clear ho hb hg hat))
          go_roundg k2
          case measure => have := HJ2.out; have := HK2.out; omega
          case rel => exact ⟨(0), (y151), (wrap64 (x28_2 + 1)), Z2, Z2, H', ⟨by have := HJ2.out; have := HK2.out; omega⟩, ⟨(Z12 HO153)⟩, ⟨(Z16 HO_26)⟩, ⟨(Z15 BK142)⟩, ⟨Z61⟩⟩
         ·rw [if_neg c18] at H
          exact absurd H (by simp)
        ·rw [if_neg c17] at H
         exact absurd H (by simp)
       ·rw [if_neg c16] at H
        exact absurd H (by simp)
      ·rw [if_neg c15] at H
       have c15b0 : decide (x28_2 < (t147.length : Int)) = false := decide_eq_false c15
       clear c15
       obtain rfl := Option.some.inj H
       go_wp2
       go_ret
       exact ⟨_, Z13, (Z17 HO_4), Z61⟩
   ·replace c8 := Bool.eq_false_iff.mpr c8
    subst c8
    have H1 : (if (a0_0 == 7 && (a0_1.toList == ([] : List UInt8) && (a0_4 == 0))) = true then ((impl_numberCells.f a0_2 a0_3 8 2).bind fun t154 => (some t154)) else (if (a0_0 == 8 && (a0_1.toList == ([] : List UInt8) && (a0_4 == 0))) = true then ((impl_numberCells.f a0_2 a0_3 6 5).bind fun t157 => (some t157)) else (if (a0_0 == 9 && (!a0_3 && (a0_4 == 0))) = true then ((impl_Pack.f kj2 a0_1).bind fun t160 => (if (t160.length : Int) = 1 then (if 0 < (t160.length : Int) then (some (([Go.bits .or .u32 (((rd t160 0) * 16) % 4294967296) 12, (a0_2) % 4294967296] : List Int))) else (none)) else (some ([] : List Int)))) else (if (a0_0 == 0 && (a0_1.toList == ([] : List UInt8) && (a0_2 == 0 && (!a0_3)))) = true then (some (([a0_4] : List Int))) else (some ([] : List Int)))))) = some r := by rw [if_neg (show ¬ (false = true) by decide)] at H; exact H
    clear H
    have H := H1
    clear H1
    by_cases c20 : (a0_0 == 7 && (a0_1.toList == ([] : List UInt8) && (a0_4 == 0))) = true
    ·rw [if_pos c20] at H
     have c20b0 : (a0_0 == 7 && (a0_1.toList == ([] : List UInt8) && (a0_4 == 0))) = true := c20
     (try (have c20b1 : (a0_0 == 7 && (a0_1.toList.isEmpty && (a0_4 == 0))) = true := by have h_ : (a0_0 == 7 && (a0_1.toList == ([] : List UInt8) && (a0_4 == 0))) = true := c20; simpa only [List.beq_nil_eq] using h_))
     (try (have c20b2 : decide (a0_0 = 7 && (a0_1.toList == ([] : List UInt8) && (a0_4 == 0))) = true := Z18))
     (try (have c20b3 : (a0_0 == 7 && (a0_1.toList == ([] : List UInt8) && (a0_4 == 0))) = true := Z18))
     clear c20
     replace H := Option.bind_eq_some_iff.mp H
     obtain ⟨t154, A210, H⟩ := H
     replace H : (some t154) = some r := H
     have A21 := Aside0.mk A210
     clear A210
     obtain rfl := Option.some.inj H
     have hcz22_0 : wc.cell? ⟨gb142, 0, none⟩ = some (.int .i64 a0_0) := (blk_cell BK142.out 0).trans rfl
     have hcz22_1 : wc.cell? ⟨gb142, 1, none⟩ = some (.string a0_1) := (blk_cell BK142.out 1).trans rfl
     have hcz22_2 : wc.cell? ⟨gb142, 2, none⟩ = some (.int .i32 a0_2) := (blk_cell BK142.out 2).trans rfl
     have hcz22_3 : wc.cell? ⟨gb142, 3, none⟩ = some (.bool a0_3) := (blk_cell BK142.out 3).trans rfl
     have hcz22_4 : wc.cell? ⟨gb142, 4, none⟩ = some (.int .u32 a0_4) := (blk_cell BK142.out 4).trans rfl
     have hfz22_0 := blk_frozen BK142.out 0
     have hfz22_1 := blk_frozen BK142.out 1
     have hfz22_2 := blk_frozen BK142.out 2
     have hfz22_3 := blk_frozen BK142.out 3
     have hfz22_4 := blk_frozen BK142.out 4
     go_wp2_with (first | ((with_reducible refine gate_callee (f := 79) rfl ?_); refine goesL_ (some 53) rfl rfl Try.func79 Z0 rfl #[.int .i32 a0_2, .bool a0_3, .int .u32 8, .int .u32 2] rfl Z4 ?_; (with_reducible refine (impl_numberCells.calls a0_2 a0_3 8 2 t154 _ A21.out).mono ?_); rintro e w23 ⟨v155, rfl, ho0, hb⟩; refine ⟨_, rfl, ?_⟩; have HO156 := Z (Kd.R_lower ho0 (below_size Z61)); replace BK142 := Z (blk_below (g := gb142) (o := .cells #[.int .i64 a0_0, .string a0_1, .int .i32 a0_2, .bool a0_3, .int .u32 a0_4] 51 (0, 0)) (Z15 BK142) hb); replace HB := Z (below_step Z61 hb); (try clear hb); (try clear hb2); (try clear hk); (try clear hi); (try clear ho0)))
     go_ret
     exact ⟨_, Z13, (Z12 HO156), Z61⟩
    ·rw [if_neg c20] at H
     have c20b0 : (a0_0 == 7 && (a0_1.toList == ([] : List UInt8) && (a0_4 == 0))) = false := Z18
     (try (have c20b1 : (a0_0 == 7 && (a0_1.toList.isEmpty && (a0_4 == 0))) = false := by have h_ : (a0_0 == 7 && (a0_1.toList == ([] : List UInt8) && (a0_4 == 0))) = false := Z18; simpa only [List.beq_nil_eq] using h_))
     (try (have c20b2 : decide (a0_0 = 7 && (a0_1.toList == ([] : List UInt8) && (a0_4 == 0))) = false := Z18))
     (try (have c20b3 : (a0_0 == 7 && (a0_1.toList == ([] : List UInt8) && (a0_4 == 0))) = false := Z18))
     (try (have c20b4 : ¬ (a0_0 = 7 && (a0_1.toList == ([] : List UInt8) && (a0_4 == 0))) := Z18))
     clear c20
     by_cases c24 : (a0_0 == 8 && (a0_1.toList == ([] : List UInt8) && (a0_4 == 0))) = true
     ·rw [if_pos c24] at H
      have c24b0 : (a0_0 == 8 && (a0_1.toList == ([] : List UInt8) && (a0_4 == 0))) = true := c24
      (try (have c24b1 : (a0_0 == 8 && (a0_1.toList.isEmpty && (a0_4 == 0))) = true := by have h_ : (a0_0 == 8 && (a0_1.toList == ([] : List UInt8) && (a0_4 == 0))) = true := c24; simpa only [List.beq_nil_eq] using h_))
      (try (have c24b2 : decide (a0_0 = 8 && (a0_1.toList == ([] : List UInt8) && (a0_4 == 0))) = true := Z19))
      (try (have c24b3 : (a0_0 == 8 && (a0_1.toList == ([] : List UInt8) && (a0_4 == 0))) = true := Z19))
      clear c24
      replace H := Option.bind_eq_some_iff.mp H
      obtain ⟨t157, A250, H⟩ := H
      replace H : (some t157) = some r := H
      have A25 := Aside0.mk A250
      clear A250
      obtain rfl := Option.some.inj H
      have hcz26_0 : wc.cell? ⟨gb142, 0, none⟩ = some (.int .i64 a0_0) := (blk_cell BK142.out 0).trans rfl
      have hcz26_1 : wc.cell? ⟨gb142, 1, none⟩ = some (.string a0_1) := (blk_cell BK142.out 1).trans rfl
      have hcz26_2 : wc.cell? ⟨gb142, 2, none⟩ = some (.int .i32 a0_2) := (blk_cell BK142.out 2).trans rfl
      have hcz26_3 : wc.cell? ⟨gb142, 3, none⟩ = some (.bool a0_3) := (blk_cell BK142.out 3).trans rfl
      have hcz26_4 : wc.cell? ⟨gb142, 4, none⟩ = some (.int .u32 a0_4) := (blk_cell BK142.out 4).trans rfl
      have hfz26_0 := blk_frozen BK142.out 0
      have hfz26_1 := blk_frozen BK142.out 1
      have hfz26_2 := blk_frozen BK142.out 2
      have hfz26_3 := blk_frozen BK142.out 3
      have hfz26_4 := blk_frozen BK142.out 4
      go_wp2_with (first | ((with_reducible refine gate_callee (f := 79) rfl ?_); refine goesL_ (some 66) rfl rfl Try.func79 Z0 rfl #[.int .i32 a0_2, .bool a0_3, .int .u32 6, .int .u32 5] rfl Z4 ?_; (with_reducible refine (impl_numberCells.calls a0_2 a0_3 6 5 t157 _ A25.out).mono ?_); rintro e w27 ⟨v158, rfl, ho0, hb⟩; refine ⟨_, rfl, ?_⟩; have HO159 := Z (Kd.R_lower ho0 (below_size Z61)); replace BK142 := Z (blk_below (g := gb142) (o := .cells #[.int .i64 a0_0, .string a0_1, .int .i32 a0_2, .bool a0_3, .int .u32 a0_4] 51 (0, 0)) (Z15 BK142) hb); replace HB := Z (below_step Z61 hb); (try clear hb); (try clear hb2); (try clear hk); (try clear hi); (try clear ho0)))
      go_ret
      exact ⟨_, Z13, (Z12 HO159), Z61⟩
     ·rw [if_neg c24] at H
      have c24b0 : (a0_0 == 8 && (a0_1.toList == ([] : List UInt8) && (a0_4 == 0))) = false := Z19
      (try (have c24b1 : (a0_0 == 8 && (a0_1.toList.isEmpty && (a0_4 == 0))) = false := by have h_ : (a0_0 == 8 && (a0_1.toList == ([] : List UInt8) && (a0_4 == 0))) = false := Z19; simpa only [List.beq_nil_eq] using h_))
      (try (have c24b2 : decide (a0_0 = 8 && (a0_1.toList == ([] : List UInt8) && (a0_4 == 0))) = false := Z19))
      (try (have c24b3 : (a0_0 == 8 && (a0_1.toList == ([] : List UInt8) && (a0_4 == 0))) = false := Z19))
      (try (have c24b4 : ¬ (a0_0 = 8 && (a0_1.toList == ([] : List UInt8) && (a0_4 == 0))) := Z19))
      clear c24
      by_cases c28 : (a0_0 == 9 && (!a0_3 && (a0_4 == 0))) = true
      ·rw [if_pos c28] at H
       have c28b0 : (a0_0 == 9 && (!a0_3 && (a0_4 == 0))) = true := c28
       (try (have c28b1 : decide (a0_0 = 9 && (!a0_3 && (a0_4 == 0))) = true := by simpa using c28))
       (try (have c28b2 : (a0_0 == 9 && (!a0_3 && (a0_4 == 0))) = true := by simpa using c28))
       clear c28
       replace H := Option.bind_eq_some_iff.mp H
       obtain ⟨t160, A290, H⟩ := H
       replace H : (if (t160.length : Int) = 1 then (if 0 < (t160.length : Int) then (some (([Go.bits .or .u32 (((rd t160 0) * 16) % 4294967296) 12, (a0_2) % 4294967296] : List Int))) else (none)) else (some ([] : List Int))) = some r := H
       have A29 := Aside0.mk A290
       clear A290
       by_cases c30 : (t160.length : Int) = 1
       ·rw [if_pos c30] at H
        have c30b0 : ((t160.length : Int) == 1) = true := beq_iff_eq.mpr c30
        have c30b1 : ((t160.length : Int) != 1) = false := bne_eq_false_iff_eq.mpr c30
        clear c30
        by_cases c31 : 0 < (t160.length : Int)
        ·rw [if_pos c31] at H
         have c31b0 : decide (0 < (t160.length : Int)) = true := decide_eq_true c31
         have c31b1 : decide (0 < t160.length) = true := decide_eq_true (by omega)
         clear c31
         obtain ⟨y164, hy164⟩ : ∃ y_ : List Int, y_ = (([Go.bits .or .u32 (((rd t160 0) * 16) % 4294967296) 12, (a0_2) % 4294967296] : List Int)) := ⟨_, rfl⟩
         replace H : (some y164) = some r := by first | (rw [hy164]; with_reducible exact H) | (have H2_ := (Option.bind_some _ _).symm.trans H; rw [hy164]; with_reducible exact H2_) | (have H2_ := (Option.bind_some _ _).symm.trans H; with_reducible exact H2_) | with_reducible exact H | (rw [hy164]; exact H) | exact H
         have Ny164 := Aside0.mk hy164
         clear hy164
         obtain rfl := Option.some.inj H
         have hcz32_0 : wc.cell? ⟨gb142, 0, none⟩ = some (.int .i64 a0_0) := (blk_cell BK142.out 0).trans rfl
         have hcz32_1 : wc.cell? ⟨gb142, 1, none⟩ = some (.string a0_1) := (blk_cell BK142.out 1).trans rfl
         have hcz32_2 : wc.cell? ⟨gb142, 2, none⟩ = some (.int .i32 a0_2) := (blk_cell BK142.out 2).trans rfl
         have hcz32_3 : wc.cell? ⟨gb142, 3, none⟩ = some (.bool a0_3) := (blk_cell BK142.out 3).trans rfl
         have hcz32_4 : wc.cell? ⟨gb142, 4, none⟩ = some (.int .u32 a0_4) := (blk_cell BK142.out 4).trans rfl
         have hfz32_0 := blk_frozen BK142.out 0
         have hfz32_1 := blk_frozen BK142.out 1
         have hfz32_2 := blk_frozen BK142.out 2
         have hfz32_3 := blk_frozen BK142.out 3
         have hfz32_4 := blk_frozen BK142.out 4
         try go_wp2_with (first | ((with_reducible refine gate_callee (f := 78) rfl ?_); refine goesL_ (some 77) rfl rfl Try.func78 Z0 rfl #[.string a0_1] rfl Z4 ?_; (with_reducible refine (impl_Pack.calls kj2 a0_1 t160 _ A29.out).mono ?_); rintro e w33 ⟨v161, rfl, ho0, hb⟩; refine ⟨_, rfl, ?_⟩; have HO162 := Z (Kd.R_lower ho0 (below_size Z61)); replace BK142 := Z (blk_below (g := gb142) (o := .cells #[.int .i64 a0_0, .string a0_1, .int .i32 a0_2, .bool a0_3, .int .u32 a0_4] 51 (0, 0)) (Z15 BK142) hb); replace HB := Z (below_step Z61 hb); (try clear hb); (try clear hb2); (try clear hk); (try clear hi); (try clear ho0); obtain ⟨Ao34, co34, eo34⟩ := Kd.R_slice HO162.out; subst eo34))
         have n0_ := Z (Kd.R_drew HO162.out)
         have n1_ := Z (blk_drew BK142.out)
         have n2_ := Z (below_drew1 HB.out)
         clear HO162
         clear BK142
         clear HB
         have HO162 := n0_
         have BK142 := n1_
         have HB := n2_
         clear n0_ n1_ n2_
         have p163 : 0 ≤ (0 : Int) := (by omega)
         have q163 : 0 < (t160.length : Int) := of_decide_eq_true Z5
         obtain ⟨ad163, e163, hx163_0⟩ := Kd.at_int (Kd.R_reads' HO162.out).2.2 0 p163 q163
         cases e163
         have qi163 : (0 < t160.length) = True := eq_true (by omega)
         (try rw [show ((0 : Int)).toNat = 0 from rfl] at hx163_0)
         (try rw [Addr.add_zero'] at hx163_0)
         replace p163 := eq_true p163
         replace q163 := eq_true q163
         refine start_ (n := 10) (S := fun w' => w'.cell? ⟨gb142, 0, none⟩ = some (.int .i64 a0_0) ∧ w'.cell? ⟨gb142, 1, none⟩ = some (.string a0_1) ∧ w'.cell? ⟨gb142, 2, none⟩ = some (.int .i32 a0_2) ∧ w'.cell? ⟨gb142, 3, none⟩ = some (.bool a0_3) ∧ w'.cell? ⟨gb142, 4, none⟩ = some (.int .u32 a0_4) ∧ w'.cell? ad163 = some (.int .u32 (rd t160 0))) (ds := []) #[false, false, false, false, false, false, false, false, false, false] Z0 rfl rfl ⟨(blk_cell BK142.out 0).trans rfl, (blk_cell BK142.out 1).trans rfl, (blk_cell BK142.out 2).trans rfl, (blk_cell BK142.out 3).trans rfl, (blk_cell BK142.out 4).trans rfl, hx163_0⟩ (fun hHeld => ?_); refine with_tabW impl_CellsOf.tab18 impl_CellsOf.bits18 (fun HT_ HW_ => ?_)
         generalize w33.drew = w35 at HO162 BK142 HB hx163_0 hHeld ⊢
         refine pure_ (i := 0) (N := some 81) (v := ?_) (a' := ?_) #[true, false, false, false, false, false, false, false, false, false] rfl rfl (any_of HT_.out Z0) (fun _ _ _ h => h) (Or.inl ⟨by rfl, ?_⟩) ?_ ?_
         rotate_left
         ·intro w'
          go_simp
          with_reducible rfl
         rotate_left
         ·simp only [Act.put, List.setIfInBounds_toArray, List.set_cons_zero, List.set_cons_succ, i64_w, i32_w]
          rfl
         refine pure_ (i := 1) (N := some 82) (v := ?_) (a' := ?_) #[true, true, false, false, false, false, false, false, false, false] rfl rfl (any_of HT_.out Z0) (fun _ _ _ h => h) (Or.inl ⟨by rfl, ?_⟩) ?_ ?_
         rotate_left
         ·intro w'
          go_simp
          with_reducible rfl
         rotate_left
         ·simp only [Act.put, List.setIfInBounds_toArray, List.set_cons_zero, List.set_cons_succ, i64_w, i32_w]
          rfl
         refine pure_ (i := 5) (N := some 86) (v := ?_) (a' := ?_) #[true, true, false, false, false, true, false, false, false, false] rfl rfl (any_of HT_.out Z0) (fun _ _ _ h => h) (Or.inl ⟨by rfl, ?_⟩) ?_ ?_
         rotate_left
         ·intro w'
          go_simp
          with_reducible rfl
         rotate_left
         ·simp only [Act.put, List.setIfInBounds_toArray, List.set_cons_zero, List.set_cons_succ, i64_w, i32_w]
          rfl
         refine take_ (i := 2) (N := some 83) (v := ?_) (a' := ?_) #[true, true, true, false, false, true, false, false, false, false] rfl rfl (take_ofW HT_.out HW_.out Z0) (fun _ _ _ h => h) (Or.inl ⟨by rfl, ?_⟩) hHeld ?_ ?_
         rotate_left
         ·rintro w' ⟨s0, s1, s2, s3, s4, s5⟩
          go_simp
          with_reducible rfl
         rotate_left
         ·simp only [Act.put, List.setIfInBounds_toArray, List.set_cons_zero, List.set_cons_succ, i64_w, i32_w]
          rfl
         refine pure_ (i := 3) (N := some 84) (v := ?_) (a' := ?_) #[true, true, true, true, false, true, false, false, false, false] rfl rfl (any_of HT_.out Z0) (fun _ _ _ h => h) (Or.inl ⟨by rfl, ?_⟩) ?_ ?_
         rotate_left
         ·intro w'
          go_simp
          with_reducible rfl
         rotate_left
         ·simp only [Act.put, List.setIfInBounds_toArray, List.set_cons_zero, List.set_cons_succ, i64_w, i32_w]
          rfl
         refine pure_ (i := 4) (N := some 85) (v := ?_) (a' := ?_) #[true, true, true, true, true, true, false, false, false, false] rfl rfl (any_of HT_.out Z0) (fun _ _ _ h => h) (Or.inl ⟨by rfl, ?_⟩) ?_ ?_
         rotate_left
         ·intro w'
          go_simp
          with_reducible rfl
         rotate_left
         ·simp only [Act.put, List.setIfInBounds_toArray, List.set_cons_zero, List.set_cons_succ, i64_w, i32_w]
          rfl
         refine take_ (i := 6) (N := some 87) (v := ?_) (a' := ?_) #[true, true, true, true, true, true, true, false, false, false] rfl rfl (take_ofW HT_.out HW_.out Z0) (fun _ _ _ h => h) (Or.inl ⟨by rfl, ?_⟩) hHeld ?_ ?_
         rotate_left
         ·rintro w' ⟨s0, s1, s2, s3, s4, s5⟩
          go_simp
          with_reducible rfl
         rotate_left
         ·simp only [Act.put, List.setIfInBounds_toArray, List.set_cons_zero, List.set_cons_succ, i64_w, i32_w]
          rfl
         refine pure_ (i := 7) (N := some 88) (v := ?_) (a' := ?_) #[true, true, true, true, true, true, true, true, false, false] rfl rfl (any_of HT_.out Z0) (fun _ _ _ h => h) (Or.inl ⟨by rfl, ?_⟩) ?_ ?_
         rotate_left
         ·intro w'
          go_simp
          with_reducible rfl
         rotate_left
         ·simp only [Act.put, List.setIfInBounds_toArray, List.set_cons_zero, List.set_cons_succ, i64_w, i32_w]
          rfl
         refine one_ (i := 8) (N := some 89) #[true, true, true, true, true, true, true, true, true, false] rfl rfl (one_of HT_.out Z0) (by decide) (fun K hK => ?_)
         refine Kd.R_lit_step (Kd.int .u32) _ 47 ?hg (N := 89) ?hd (xs := ([Go.bits .or .u32 (((rd t160 0) * 16) % 4294967296) 12, (a0_2) % 4294967296] : List Int)) (inner := [.int .u32 (Go.bits .or .u32 (((rd t160 0) * 16) % 4294967296) 12), .int .u32 ((a0_2) % 4294967296)]) (ok := fun _ => True) (okp := fun _ => True) ?hr ?hp (fun _ hk => hk) trivial (Below.refl _ _) (Nat.le_refl _) (by simp) ?_; (case hd => rfl); (case hg => rfl); (case hr => exact Z10); (case hp => exact (Reps.one (show Kd.M (Kd.int .u32) _ _ _ (Go.bits .or .u32 (((rd t160 0) * 16) % 4294967296) 12) [.int .u32 (Go.bits .or .u32 (((rd t160 0) * 16) % 4294967296) 12)] from rfl) (Reps.one (show Kd.M (Kd.int .u32) _ _ _ ((a0_2) % 4294967296) [.int .u32 ((a0_2) % 4294967296)] from rfl) (Reps.none _ _))))
         intro v165 w36 ho37 hb hg_ hnew_
         have HS5_ := (hb.cell (World.block_lt_of_cell? _ _ (hHeld.2.2.2.2.2))).trans (hHeld.2.2.2.2.2)
         clear hg_ hnew_
         (first | rw [← Ny164.out] at ho37 | (simp only [Int.reduceToNat] at ho37; rw [← Ny164.out] at ho37))
         have n0_ := Z (Kd.R_elder' (Z12 HO162) (Kd.R_base ho37) hb)
         have n1_ := Z (Kd.R_lower (Kd.R_new' ho37 (Kd.R_lt (Z12 HO162))) (below_size Z61))
         have n2_ := Z (blk_below (g := gb142) (o := .cells #[.int .i64 a0_0, .string a0_1, .int .i32 a0_2, .bool a0_3, .int .u32 a0_4] 51 (0, 0)) (Z15 BK142) hb)
         have n3_ := Z (below_step Z61 hb)
         clear HO162
         clear BK142
         clear HB
         have HO162 := n0_
         have HO166 := n1_
         have BK142 := n2_
         have HB := n3_
         clear n0_ n1_ n2_ n3_
         clear hb ho37
         refine hK.out _ _ ⟨(blk_cell BK142.out 0).trans rfl, (blk_cell BK142.out 1).trans rfl, (blk_cell BK142.out 2).trans rfl, (blk_cell BK142.out 3).trans rfl, (blk_cell BK142.out 4).trans rfl, HS5_⟩ (fun hHeld => ?_)
         clear hK K
         refine norm_ (a' := ?_) ?_ ?_
         rotate_left
         ·show Act.put _ (some 89) _ = _
          simp only [Act.put, List.setIfInBounds_toArray, List.set_cons_zero, List.set_cons_succ, i64_w, i32_w]
          rfl
         refine pure_ (i := 9) (N := some 2) (v := ?_) (a' := ?_) #[true, true, true, true, true, true, true, true, true, true] rfl rfl (any_of HT_.out Z0) (fun _ _ _ h => h) (Or.inl ⟨by rfl, ?_⟩) ?_ ?_
         rotate_left
         ·intro w'
          go_simp
          with_reducible rfl
         rotate_left
         ·simp only [Act.put, List.setIfInBounds_toArray, List.set_cons_zero, List.set_cons_succ, i64_w, i32_w]
          rfl
         refine done_ (done_of HT_.out Z0) ?_
         try go_wp2
         go_ret
         exact ⟨_, Z13, (Z17 HO166), Z61⟩
        ·rw [if_neg c31] at H
         exact absurd H (by simp)
       ·rw [if_neg c30] at H
        have c30b0 : ((t160.length : Int) == 1) = false := beq_eq_false_iff_ne.mpr c30
        have c30b1 : ((t160.length : Int) != 1) = true := bne_iff_ne.mpr c30
        obtain rfl := Option.some.inj H
        have hcz38_0 : wc.cell? ⟨gb142, 0, none⟩ = some (.int .i64 a0_0) := (blk_cell BK142.out 0).trans rfl
        have hcz38_1 : wc.cell? ⟨gb142, 1, none⟩ = some (.string a0_1) := (blk_cell BK142.out 1).trans rfl
        have hcz38_2 : wc.cell? ⟨gb142, 2, none⟩ = some (.int .i32 a0_2) := (blk_cell BK142.out 2).trans rfl
        have hcz38_3 : wc.cell? ⟨gb142, 3, none⟩ = some (.bool a0_3) := (blk_cell BK142.out 3).trans rfl
        have hcz38_4 : wc.cell? ⟨gb142, 4, none⟩ = some (.int .u32 a0_4) := (blk_cell BK142.out 4).trans rfl
        have hfz38_0 := blk_frozen BK142.out 0
        have hfz38_1 := blk_frozen BK142.out 1
        have hfz38_2 := blk_frozen BK142.out 2
        have hfz38_3 := blk_frozen BK142.out 3
        have hfz38_4 := blk_frozen BK142.out 4
        go_wp2_with (first | ((with_reducible refine gate_callee (f := 78) rfl ?_); refine goesL_ (some 77) rfl rfl Try.func78 Z0 rfl #[.string a0_1] rfl Z4 ?_; (with_reducible refine (impl_Pack.calls kj2 a0_1 t160 _ A29.out).mono ?_); rintro e w39 ⟨v161, rfl, ho0, hb⟩; refine ⟨_, rfl, ?_⟩; have HO162 := Z (Kd.R_lower ho0 (below_size Z61)); replace BK142 := Z (blk_below (g := gb142) (o := .cells #[.int .i64 a0_0, .string a0_1, .int .i32 a0_2, .bool a0_3, .int .u32 a0_4] 51 (0, 0)) (Z15 BK142) hb); replace HB := Z (below_step Z61 hb); (try clear hb); (try clear hb2); (try clear hk); (try clear hi); (try clear ho0); obtain ⟨Ao40, co40, eo40⟩ := Kd.R_slice HO162.out; subst eo40))
        go_ret
        exact ⟨_, Z13, Z20, Z61⟩
      ·rw [if_neg c28] at H
       have c28b0 : (a0_0 == 9 && (!a0_3 && (a0_4 == 0))) = false := by simpa using c28
       (try (have c28b1 : decide (a0_0 = 9 && (!a0_3 && (a0_4 == 0))) = false := by simpa using c28))
       (try (have c28b2 : (a0_0 == 9 && (!a0_3 && (a0_4 == 0))) = false := by simpa using c28))
       (try (have c28b3 : ¬ (a0_0 = 9 && (!a0_3 && (a0_4 == 0))) := by simpa using c28))
       clear c28
       by_cases c41 : (a0_0 == 0 && (a0_1.toList == ([] : List UInt8) && (a0_2 == 0 && (!a0_3)))) = true
       ·rw [if_pos c41] at H
        have c41b0 : (a0_0 == 0 && (a0_1.toList == ([] : List UInt8) && (a0_2 == 0 && (!a0_3)))) = true := c41
        (try (have c41b1 : (a0_0 == 0 && (a0_1.toList.isEmpty && (a0_2 == 0 && (!a0_3)))) = true := by have h_ : (a0_0 == 0 && (a0_1.toList == ([] : List UInt8) && (a0_2 == 0 && (!a0_3)))) = true := c41; simpa only [List.beq_nil_eq] using h_))
        (try (have c41b2 : decide (a0_0 = 0 && (a0_1.toList == ([] : List UInt8) && (a0_2 == 0 && (!a0_3)))) = true := Z21))
        (try (have c41b3 : (a0_0 == 0 && (a0_1.toList == ([] : List UInt8) && (a0_2 == 0 && (!a0_3)))) = true := Z21))
        clear c41
        obtain ⟨y167, hy167⟩ : ∃ y_ : List Int, y_ = (([a0_4] : List Int)) := ⟨_, rfl⟩
        replace H : (some y167) = some r := by first | (rw [hy167]; with_reducible exact H) | (have H2_ := (Option.bind_some _ _).symm.trans H; rw [hy167]; with_reducible exact H2_) | (have H2_ := (Option.bind_some _ _).symm.trans H; with_reducible exact H2_) | with_reducible exact H | (rw [hy167]; exact H) | exact H
        have Ny167 := Aside0.mk hy167
        clear hy167
        obtain rfl := Option.some.inj H
        have hcz42_0 : wc.cell? ⟨gb142, 0, none⟩ = some (.int .i64 a0_0) := (blk_cell BK142.out 0).trans rfl
        have hcz42_1 : wc.cell? ⟨gb142, 1, none⟩ = some (.string a0_1) := (blk_cell BK142.out 1).trans rfl
        have hcz42_2 : wc.cell? ⟨gb142, 2, none⟩ = some (.int .i32 a0_2) := (blk_cell BK142.out 2).trans rfl
        have hcz42_3 : wc.cell? ⟨gb142, 3, none⟩ = some (.bool a0_3) := (blk_cell BK142.out 3).trans rfl
        have hcz42_4 : wc.cell? ⟨gb142, 4, none⟩ = some (.int .u32 a0_4) := (blk_cell BK142.out 4).trans rfl
        have hfz42_0 := blk_frozen BK142.out 0
        have hfz42_1 := blk_frozen BK142.out 1
        have hfz42_2 := blk_frozen BK142.out 2
        have hfz42_3 := blk_frozen BK142.out 3
        have hfz42_4 := blk_frozen BK142.out 4
        go_wp2_with (first | ((with_reducible refine gate_dst (N := 98) rfl ?_); refine Kd.R_lit (Kd.int .u32) _ 47 (by rfl) (N := 98) (by rfl) (xs := ([a0_4] : List Int)) (inner := [.int .u32 a0_4]) (ok := fun _ => True) (okp := fun _ => True) Z10 (Reps.one (show Kd.M (Kd.int .u32) _ _ _ a0_4 [.int .u32 a0_4] from rfl) (Reps.none _ _)) (fun _ hk => hk) trivial (Below.refl _ _) (Nat.le_refl _) (by simp) ?_; intro v168 w43 ho44 hb hg_ hnew_; clear hg_ hnew_; (first | rw [← Ny167.out] at ho44 | (simp only [Int.reduceToNat] at ho44; rw [← Ny167.out] at ho44)); have HO169 := Z (Kd.R_lower ho44 (below_size Z61)); replace BK142 := Z (blk_below (g := gb142) (o := .cells #[.int .i64 a0_0, .string a0_1, .int .i32 a0_2, .bool a0_3, .int .u32 a0_4] 51 (0, 0)) (Z15 BK142) hb); replace HB := Z (below_step Z61 hb); clear hb ho44))
        go_ret
        exact ⟨_, Z13, (Z12 HO169), Z61⟩
       ·rw [if_neg c41] at H
        have c41b0 : (a0_0 == 0 && (a0_1.toList == ([] : List UInt8) && (a0_2 == 0 && (!a0_3)))) = false := Z21
        (try (have c41b1 : (a0_0 == 0 && (a0_1.toList.isEmpty && (a0_2 == 0 && (!a0_3)))) = false := by have h_ : (a0_0 == 0 && (a0_1.toList == ([] : List UInt8) && (a0_2 == 0 && (!a0_3)))) = false := Z21; simpa only [List.beq_nil_eq] using h_))
        (try (have c41b2 : decide (a0_0 = 0 && (a0_1.toList == ([] : List UInt8) && (a0_2 == 0 && (!a0_3)))) = false := Z21))
        (try (have c41b3 : (a0_0 == 0 && (a0_1.toList == ([] : List UInt8) && (a0_2 == 0 && (!a0_3)))) = false := Z21))
        (try (have c41b4 : ¬ (a0_0 = 0 && (a0_1.toList == ([] : List UInt8) && (a0_2 == 0 && (!a0_3)))) := Z21))
        clear c41
        obtain rfl := Option.some.inj H
        have hcz45_0 : wc.cell? ⟨gb142, 0, none⟩ = some (.int .i64 a0_0) := (blk_cell BK142.out 0).trans rfl
        have hcz45_1 : wc.cell? ⟨gb142, 1, none⟩ = some (.string a0_1) := (blk_cell BK142.out 1).trans rfl
        have hcz45_2 : wc.cell? ⟨gb142, 2, none⟩ = some (.int .i32 a0_2) := (blk_cell BK142.out 2).trans rfl
        have hcz45_3 : wc.cell? ⟨gb142, 3, none⟩ = some (.bool a0_3) := (blk_cell BK142.out 3).trans rfl
        have hcz45_4 : wc.cell? ⟨gb142, 4, none⟩ = some (.int .u32 a0_4) := (blk_cell BK142.out 4).trans rfl
        have hfz45_0 := blk_frozen BK142.out 0
        have hfz45_1 := blk_frozen BK142.out 1
        have hfz45_2 := blk_frozen BK142.out 2
        have hfz45_3 := blk_frozen BK142.out 3
        have hfz45_4 := blk_frozen BK142.out 4
        go_wp2
        go_ret
        exact ⟨_, Z13, Z20, Z61⟩

/-! ### slices_Equal_uint32_uint32: function 90 -/
def slices_Equal_uint32_uint32.l0 : Nat → List Int → List Int → Int → Int → Option (Bool)
 | 0, _, _, _, _ => none
 | k + 1, x0, x1, x12, x13 => if x13 < x12 then (if 0 ≤ x13 then (if x13 < (x0.length : Int) then (if x13 < (x1.length : Int) then (if (rd x0 x13) = (rd x1 x13) then (slices_Equal_uint32_uint32.l0 k x0 x1 x12 (wrap64 (x13 + 1))) else (some false)) else (none)) else (none)) else (none)) else (some true)
def slices_Equal_uint32_uint32.f (k : Nat) (l0 : List Int) (l1 : List Int) : Option (Bool) := if (l0.length : Int) = (l1.length : Int) then (slices_Equal_uint32_uint32.l0 k l0 l1 (l0.length : Int) 0) else (some false)
theorem slices_Equal_uint32_uint32.mono_l : ∀ k, (∀ y0 y1 y2 y3, LeO (slices_Equal_uint32_uint32.l0 k y0 y1 y2 y3) (slices_Equal_uint32_uint32.l0 (k + 1) y0 y1 y2 y3))
 | 0 => fun _ _ _ _ r h => by simp [slices_Equal_uint32_uint32.l0] at h
 | k + 1 => by
  have ih0 := slices_Equal_uint32_uint32.mono_l k
  ·intro y0 y1 y2 y3
   unfold slices_Equal_uint32_uint32.l0
   repeat' first
   | (with_reducible exact ih0 _ _ _ _)
   | (with_reducible exact LeO.refl _)
   | (with_reducible exact LeO.none _)
   | (with_reducible refine LeO.ite ?_ ?_)
   | (with_reducible refine LeO.bind ?_ (fun _ => ?_))
   | exact ih0 _ _ _ _
   | exact LeO.none _
   | refine LeO.ite ?_ ?_
   | refine LeO.bind ?_ (fun _ => ?_)
theorem slices_Equal_uint32_uint32.mono : ∀ a0 a1 k, LeO (slices_Equal_uint32_uint32.f k a0 a1) (slices_Equal_uint32_uint32.f (k + 1) a0 a1) := by
 intro a0 a1 k
 have ih0 := slices_Equal_uint32_uint32.mono_l k
 unfold slices_Equal_uint32_uint32.f
 repeat' first
   | (with_reducible exact ih0 _ _ _ _)
   | (with_reducible exact LeO.refl _)
   | (with_reducible exact LeO.none _)
   | (with_reducible refine LeO.ite ?_ ?_)
   | (with_reducible refine LeO.bind ?_ (fun _ => ?_))
   | exact ih0 _ _ _ _
   | exact LeO.none _
   | refine LeO.ite ?_ ?_
   | refine LeO.bind ?_ (fun _ => ?_)
set_option maxHeartbeats 8000000 in
set_option maxRecDepth 100000 in
theorem slices_Equal_uint32_uint32.calls (k : Nat) (A0 : Option Addr) (c0 : Nat) (l0 : List Int) (A1 : Option Addr) (c1 : Nat) (l1 : List Int) (r : Bool) (w : World) (hr0 : Kd.C (Kd.int .u32) w A0 l0.length l0) (hc0 : l0.length ≤ c0) (hr1 : Kd.C (Kd.int .u32) w A1 l1.length l1) (hc1 : l1.length ≤ c1) (h : slices_Equal_uint32_uint32.f k l0 l1 = some r) :
  Calls Try.prog 90 #[.slice A0 l0.length c0, .slice A1 l1.length c1] w fun e w' => e = .returned (.bool r) ∧ Drawn0 w w' := by
 have HR0 := Aside0.mk hr0
 have HC0 := Aside0.mk hc0
 clear hr0 hc0
 have HR1 := Aside0.mk hr1
 have HC1 := Aside0.mk hc1
 clear hr1 hc1
 have H : (if (l0.length : Int) = (l1.length : Int) then (slices_Equal_uint32_uint32.l0 k l0 l1 (l0.length : Int) 0) else (some false)) = some r := h
 clear h
 by_cases c3 : (l0.length : Int) = (l1.length : Int)
 ·rw [if_pos c3] at H
  have c3b0 : ((l0.length : Int) == (l1.length : Int)) = true := beq_iff_eq.mpr c3
  have c3b1 : ((l0.length : Int) != (l1.length : Int)) = false := bne_eq_false_iff_eq.mpr c3
  have c3b2 : (l0.length == l1.length) = true := Z22
  clear c3
  have H' := Aside0.mk H
  clear H
  go_enter Try.func90, Try.ntmps90
  go_wp2
  repeat (go_quiet (fail); try go_wp2)
  go_loopg [13] k (fun kq v13 w' => ∃ (x13_1 : Int), v13 = .int .i64 x13_1 ∧ Aside0 (slices_Equal_uint32_uint32.l0 kq l0 l1 (l0.length : Int) x13_1 = some r) ∧ Aside0 (kq ≤ k) ∧ Drawn0 w w')
  case atStart => exact ⟨(0), Z2, H', ⟨Nat.le_refl _⟩, Z3⟩
  case round =>
   clear H'
   try clear c1
   try clear p2
   try clear c3
   try clear c3b0
   try clear c3b1
   try clear c3b2
   obtain ⟨x13_1, rfl, HA, HK1, ⟨m1, rfl⟩⟩ := hrel
   cases gk with
   | zero => exact absurd HA.out (by simp [slices_Equal_uint32_uint32.l0])
   | succ k1 =>
    have H := HA.out
    clear HA
    simp only [slices_Equal_uint32_uint32.l0] at H
    by_cases c4 : x13_1 < (l0.length : Int)
    ·rw [if_pos c4] at H
     have c4b0 : decide (x13_1 < (l0.length : Int)) = true := decide_eq_true c4
     clear c4
     by_cases c5 : 0 ≤ x13_1
     ·rw [if_pos c5] at H
      have c5b0 : decide (0 ≤ x13_1) = true := decide_eq_true c5
      clear c5
      by_cases c6 : x13_1 < (l0.length : Int)
      ·rw [if_pos c6] at H
       have c6b0 : decide (x13_1 < (l0.length : Int)) = true := decide_eq_true c6
       clear c6
       by_cases c7 : x13_1 < (l1.length : Int)
       ·rw [if_pos c7] at H
        have c7b0 : decide (x13_1 < (l1.length : Int)) = true := decide_eq_true c7
        clear c7
        by_cases c8 : (rd l0 x13_1) = (rd l1 x13_1)
        ·rw [if_pos c8] at H
         have c8b0 : ((rd l0 x13_1) == (rd l1 x13_1)) = true := beq_iff_eq.mpr c8
         have c8b1 : ((rd l0 x13_1) != (rd l1 x13_1)) = false := bne_eq_false_iff_eq.mpr c8
         clear c8
         have H' := Aside0.mk H
         clear H
         have p170 : 0 ≤ (x13_1 : Int) := of_decide_eq_true Z5
         have q170 : x13_1 < (l0.length : Int) := of_decide_eq_true Z5
         obtain ⟨ad170, e170, hx170_0⟩ := Kd.at_int HR0.out x13_1 p170 q170
         cases e170
         replace p170 := eq_true p170
         replace q170 := eq_true q170
         have p171 : 0 ≤ (x13_1 : Int) := of_decide_eq_true Z5
         have q171 : x13_1 < (l1.length : Int) := of_decide_eq_true Z5
         obtain ⟨ad171, e171, hx171_0⟩ := Kd.at_int HR1.out x13_1 p171 q171
         cases e171
         replace p171 := eq_true p171
         replace q171 := eq_true q171
         go_wp2
         repeat (go_quiet (fail); try go_wp2)
         go_roundg k1
         case measure => have := HK1.out; omega
         case rel => exact ⟨(wrap64 (x13_1 + 1)), Z2, H', ⟨Z6⟩, Z3⟩
        ·rw [if_neg c8] at H
         have c8b0 : ((rd l0 x13_1) == (rd l1 x13_1)) = false := beq_eq_false_iff_ne.mpr c8
         have c8b1 : ((rd l0 x13_1) != (rd l1 x13_1)) = true := bne_iff_ne.mpr c8
         obtain rfl := Option.some.inj H
         have p170 : 0 ≤ (x13_1 : Int) := of_decide_eq_true Z5
         have q170 : x13_1 < (l0.length : Int) := of_decide_eq_true Z5
         obtain ⟨ad170, e170, hx170_0⟩ := Kd.at_int HR0.out x13_1 p170 q170
         cases e170
         replace p170 := eq_true p170
         replace q170 := eq_true q170
         have p171 : 0 ≤ (x13_1 : Int) := of_decide_eq_true Z5
         have q171 : x13_1 < (l1.length : Int) := of_decide_eq_true Z5
         obtain ⟨ad171, e171, hx171_0⟩ := Kd.at_int HR1.out x13_1 p171 q171
         cases e171
         replace p171 := eq_true p171
         replace q171 := eq_true q171
         go_wp2
         repeat (go_quiet (fail); try go_wp2)
         go_ret
         exact ⟨Z2, Z3⟩
       ·rw [if_neg c7] at H
        exact absurd H (by simp)
      ·rw [if_neg c6] at H
       exact absurd H (by simp)
     ·rw [if_neg c5] at H
      exact absurd H (by simp)
    ·rw [if_neg c4] at H
     have c4b0 : decide (x13_1 < (l0.length : Int)) = false := decide_eq_false c4
     clear c4
     obtain rfl := Option.some.inj H
     go_wp2
     repeat (go_quiet (fail); try go_wp2)
     go_ret
     exact ⟨Z2, Z3⟩
 ·rw [if_neg c3] at H
  have c3b0 : ((l0.length : Int) == (l1.length : Int)) = false := beq_eq_false_iff_ne.mpr c3
  have c3b1 : ((l0.length : Int) != (l1.length : Int)) = true := bne_iff_ne.mpr c3
  have c3b2 : (l0.length == l1.length) = false := Z22
  obtain rfl := Option.some.inj H
  go_enter Try.func90, Try.ntmps90
  go_wp2
  repeat (go_quiet (fail); try go_wp2)
  go_ret
  exact ⟨Z2, Z3⟩

/-! ### impl_Decode: function 113 -/
def impl_Decode.l0 : Nat → Int → Int → Int → Option (Int × Int)
 | 0, _, _, _ => none
 | k + 1, x0, x1, x11 => if x11 < 48 then ((impl_WidthOf.f x11).bind fun t173 => (if t173 ≤ x1 then (if 0 ≤ (wrap64 (x1 - t173)) then (if 0 ≤ t173 then ((impl_BitsOf.f x11).bind fun t174 => (if (Go.bits .and .u32 (shr .u32 x0 (wrap64 (x1 - t173))) (((shl .u32 1 t173) - 1) % 4294967296)) = t174 then (some (x11, t173)) else (impl_Decode.l0 k x0 x1 (wrap64 (x11 + 1))))) else (none)) else (none)) else (impl_Decode.l0 k x0 x1 (wrap64 (x11 + 1))))) else (some ((-1), 0))
def impl_Decode.f (k : Nat) (a0 : Int) (a1 : Int) : Option (Int × Int) := (impl_within.f a1 1 32).bind fun t172 => (if t172 = true then (impl_Decode.l0 k a0 a1 0) else (some ((-1), 0)))
theorem impl_Decode.mono_l : ∀ k, (∀ y0 y1 y2, LeO (impl_Decode.l0 k y0 y1 y2) (impl_Decode.l0 (k + 1) y0 y1 y2))
 | 0 => fun _ _ _ r h => by simp [impl_Decode.l0] at h
 | k + 1 => by
  have ih0 := impl_Decode.mono_l k
  ·intro y0 y1 y2
   unfold impl_Decode.l0
   repeat' first
   | (with_reducible exact ih0 _ _ _)
   | (with_reducible exact LeO.refl _)
   | (with_reducible exact LeO.none _)
   | (with_reducible refine LeO.ite ?_ ?_)
   | (with_reducible refine LeO.bind ?_ (fun _ => ?_))
   | exact ih0 _ _ _
   | exact LeO.none _
   | refine LeO.ite ?_ ?_
   | refine LeO.bind ?_ (fun _ => ?_)
theorem impl_Decode.mono : ∀ a0 a1 k, LeO (impl_Decode.f k a0 a1) (impl_Decode.f (k + 1) a0 a1) := by
 intro a0 a1 k
 have ih0 := impl_Decode.mono_l k
 unfold impl_Decode.f
 repeat' first
   | (with_reducible exact ih0 _ _ _)
   | (with_reducible exact LeO.refl _)
   | (with_reducible exact LeO.none _)
   | (with_reducible refine LeO.ite ?_ ?_)
   | (with_reducible refine LeO.bind ?_ (fun _ => ?_))
   | exact ih0 _ _ _
   | exact LeO.none _
   | refine LeO.ite ?_ ?_
   | refine LeO.bind ?_ (fun _ => ?_)
set_option maxHeartbeats 8000000 in
set_option maxRecDepth 100000 in
theorem impl_Decode.calls (k : Nat) (a0 : Int) (a1 : Int) (r1 : Int) (r2 : Int) (w : World) (h : impl_Decode.f k a0 a1 = some (r1, r2)) :
  Calls Try.prog 113 #[.int .u32 a0, .int .i64 a1] w fun e w' => e = .returned (.tuple #[.int .i64 r1, .int .i64 r2]) ∧ Drawn0 w w' := by
 have H : ((impl_within.f a1 1 32).bind fun t172 => (if t172 = true then (impl_Decode.l0 k a0 a1 0) else (some ((-1), 0)))) = some (r1, r2) := h
 clear h
 replace H := Option.bind_eq_some_iff.mp H
 obtain ⟨t172, A30, H⟩ := H
 replace H : (if t172 = true then (impl_Decode.l0 k a0 a1 0) else (some ((-1), 0))) = some (r1, r2) := H
 have A3 := Aside0.mk A30
 clear A30
 by_cases c4 : t172 = true
 ·subst c4
  have H1 : (impl_Decode.l0 k a0 a1 0) = some (r1, r2) := Z7
  clear H
  have H := H1
  clear H1
  have H' := Aside0.mk H
  clear H
  go_enter Try.func113, Try.ntmps113
  go_wp2_with (first | (go_at_call 103; (with_reducible refine (impl_within.calls a1 1 32 true _ A3.out).mono ?_); rintro e w' ⟨rfl, ⟨nd, rfl⟩⟩; (try first | exact ⟨rfl, _, World.drewN_drewN _ _ _⟩ | exact ⟨rfl, _, Eq.trans (World.drewN_drewN _ _ _) (congrArg (World.drewN _) (Nat.add_assoc _ _ _))⟩)))
  repeat (go_quiet (first | (go_at_call 103; (with_reducible refine (impl_within.calls a1 1 32 true _ A3.out).mono ?_); rintro e w' ⟨rfl, ⟨nd, rfl⟩⟩; (try first | exact ⟨rfl, _, World.drewN_drewN _ _ _⟩ | exact ⟨rfl, _, Eq.trans (World.drewN_drewN _ _ _) (congrArg (World.drewN _) (Nat.add_assoc _ _ _))⟩))); try go_wp2_with (first | (go_at_call 103; (with_reducible refine (impl_within.calls a1 1 32 true _ A3.out).mono ?_); rintro e w' ⟨rfl, ⟨nd, rfl⟩⟩; (try first | exact ⟨rfl, _, World.drewN_drewN _ _ _⟩ | exact ⟨rfl, _, Eq.trans (World.drewN_drewN _ _ _) (congrArg (World.drewN _) (Nat.add_assoc _ _ _))⟩))))
  go_loopg [11] k (fun kq v11 w' => ∃ (x11_1 : Int), v11 = .int .i64 x11_1 ∧ Aside0 (impl_Decode.l0 kq a0 a1 x11_1 = some (r1, r2)) ∧ Aside0 (kq ≤ k) ∧ Drawn0 w w')
  case atStart => exact ⟨(0), Z2, H', ⟨Nat.le_refl _⟩, Z3⟩
  case round =>
   clear H'
   try clear c1
   try clear p2
   try clear c4
   obtain ⟨x11_1, rfl, HA, HK1, ⟨m1, rfl⟩⟩ := hrel
   cases gk with
   | zero => exact absurd HA.out (by simp [impl_Decode.l0])
   | succ k1 =>
    have H := HA.out
    clear HA
    simp only [impl_Decode.l0] at H
    by_cases c5 : x11_1 < 48
    ·rw [if_pos c5] at H
     have c5b0 : decide (x11_1 < 48) = true := decide_eq_true c5
     clear c5
     replace H := Option.bind_eq_some_iff.mp H
     obtain ⟨t173, A60, H⟩ := H
     replace H : (if t173 ≤ a1 then (if 0 ≤ (wrap64 (a1 - t173)) then (if 0 ≤ t173 then ((impl_BitsOf.f x11_1).bind fun t174 => (if (Go.bits .and .u32 (shr .u32 a0 (wrap64 (a1 - t173))) (((shl .u32 1 t173) - 1) % 4294967296)) = t174 then (some (x11_1, t173)) else (impl_Decode.l0 k1 a0 a1 (wrap64 (x11_1 + 1))))) else (none)) else (none)) else (impl_Decode.l0 k1 a0 a1 (wrap64 (x11_1 + 1)))) = some (r1, r2) := H
     have A6 := Aside0.mk A60
     clear A60
     by_cases c7 : t173 ≤ a1
     ·rw [if_pos c7] at H
      have c7b0 : decide (t173 ≤ a1) = true := decide_eq_true c7
      clear c7
      obtain ⟨ji8, hji8⟩ : ∃ j_ : Int, (wrap64 (a1 - t173)) = j_ := ⟨_, rfl⟩
      replace H : (if 0 ≤ (ji8) then (if 0 ≤ t173 then ((impl_BitsOf.f x11_1).bind fun t174 => (if (Go.bits .and .u32 (shr .u32 a0 (ji8)) (((shl .u32 1 t173) - 1) % 4294967296)) = t174 then (some (x11_1, t173)) else (impl_Decode.l0 k1 a0 a1 (wrap64 (x11_1 + 1))))) else (none)) else (none)) = some (r1, r2) := Z23
      (try rw [hji8] at A6)
      have hji8w : (IntKind.i64.wrap (a1 - t173)) = ji8 := (i64_w _).trans hji8
      by_cases c9 : 0 ≤ (ji8)
      ·rw [if_pos c9] at H
       have c9b0 := eq_true c9
       have c9b1 : decide (0 ≤ (ji8)) = true := decide_eq_true c9
       clear c9
       obtain ⟨ji10, hji10⟩ : ∃ j_ : Int, (shr .u32 a0 (ji8)) = j_ := ⟨_, rfl⟩
       replace H : (if 0 ≤ t173 then ((impl_BitsOf.f x11_1).bind fun t174 => (if (Go.bits .and .u32 (ji10) (((shl .u32 1 t173) - 1) % 4294967296)) = t174 then (some (x11_1, t173)) else (impl_Decode.l0 k1 a0 a1 (wrap64 (x11_1 + 1))))) else (none)) = some (r1, r2) := Z24
       (try rw [hji10] at A6)
       have hji10_ : (a0 / 2 ^ min (ji8).toNat 32) = ji10 := hji10
       have hji10z : (ji8) ≤ 32 → (a0 / 2 ^ (ji8).toNat) = ji10 := shr_small hji10
       by_cases c11 : 0 ≤ t173
       ·rw [if_pos c11] at H
        have c11b0 := eq_true c11
        have c11b1 : decide (0 ≤ t173) = true := decide_eq_true c11
        clear c11
        obtain ⟨ji12, hji12⟩ : ∃ j_ : Int, (shl .u32 1 t173) = j_ := ⟨_, rfl⟩
        replace H : ((impl_BitsOf.f x11_1).bind fun t174 => (if (Go.bits .and .u32 (ji10) (((ji12) - 1) % 4294967296)) = t174 then (some (x11_1, t173)) else (impl_Decode.l0 k1 a0 a1 (wrap64 (x11_1 + 1))))) = some (r1, r2) := by first | (rw [hji12] at H; exact H) | (simp only [hji12] at H ⊢; exact H)
        (try rw [hji12] at A6)
        have hji12_ : (IntKind.u32.wrap (1 * 2 ^ min t173.toNat 32)) = ji12 := hji12
        have hji12z : t173 ≤ 32 → (IntKind.u32.wrap (1 * 2 ^ t173.toNat)) = ji12 := shl_small hji12
        have hji12u : (IntKind.u32.wrap (2 ^ min t173.toNat 32)) = ji12 := by have h_ := hji12_; rw [Int.one_mul] at h_; exact h_
        have hji12v : t173 ≤ 32 → (IntKind.u32.wrap (2 ^ t173.toNat)) = ji12 := fun hle_ => by have h_ := hji12z hle_; rw [Int.one_mul] at h_; exact h_
        replace H := Option.bind_eq_some_iff.mp H
        obtain ⟨t174, A130, H⟩ := H
        replace H : (if (Go.bits .and .u32 (ji10) (((ji12) - 1) % 4294967296)) = t174 then (some (x11_1, t173)) else (impl_Decode.l0 k1 a0 a1 (wrap64 (x11_1 + 1)))) = some (r1, r2) := H
        have A13 := Aside0.mk A130
        clear A130
        by_cases c14 : (Go.bits .and .u32 (ji10) (((ji12) - 1) % 4294967296)) = t174
        ·rw [if_pos c14] at H
         have c14b0 : ((Go.bits .and .u32 (ji10) (((ji12) - 1) % 4294967296)) == t174) = true := beq_iff_eq.mpr c14
         have c14b1 : ((Go.bits .and .u32 (ji10) (((ji12) - 1) % 4294967296)) != t174) = false := bne_eq_false_iff_eq.mpr c14
         clear c14
         simp only [Option.some.injEq, Prod.mk.injEq] at H
         obtain ⟨rfl, rfl⟩ := H
         go_wp2_with (first | (go_at_call 122; (with_reducible refine (impl_WidthOf.calls x11_1 t173 _ A6.out).mono ?_); rintro e w' ⟨rfl, ⟨nd, rfl⟩⟩; (try first | exact ⟨rfl, _, World.drewN_drewN _ _ _⟩ | exact ⟨rfl, _, Eq.trans (World.drewN_drewN _ _ _) (congrArg (World.drewN _) (Nat.add_assoc _ _ _))⟩)) | (go_at_call 123; (with_reducible refine (impl_BitsOf.calls x11_1 t174 _ A13.out).mono ?_); rintro e w' ⟨rfl, ⟨nd, rfl⟩⟩; (try first | exact ⟨rfl, _, World.drewN_drewN _ _ _⟩ | exact ⟨rfl, _, Eq.trans (World.drewN_drewN _ _ _) (congrArg (World.drewN _) (Nat.add_assoc _ _ _))⟩)))
         repeat (go_quiet (first | (go_at_call 122; (with_reducible refine (impl_WidthOf.calls x11_1 t173 _ A6.out).mono ?_); rintro e w' ⟨rfl, ⟨nd, rfl⟩⟩; (try first | exact ⟨rfl, _, World.drewN_drewN _ _ _⟩ | exact ⟨rfl, _, Eq.trans (World.drewN_drewN _ _ _) (congrArg (World.drewN _) (Nat.add_assoc _ _ _))⟩)) | (go_at_call 123; (with_reducible refine (impl_BitsOf.calls x11_1 t174 _ A13.out).mono ?_); rintro e w' ⟨rfl, ⟨nd, rfl⟩⟩; (try first | exact ⟨rfl, _, World.drewN_drewN _ _ _⟩ | exact ⟨rfl, _, Eq.trans (World.drewN_drewN _ _ _) (congrArg (World.drewN _) (Nat.add_assoc _ _ _))⟩))); try go_wp2_with (first | (go_at_call 122; (with_reducible refine (impl_WidthOf.calls x11_1 t173 _ A6.out).mono ?_); rintro e w' ⟨rfl, ⟨nd, rfl⟩⟩; (try first | exact ⟨rfl, _, World.drewN_drewN _ _ _⟩ | exact ⟨rfl, _, Eq.trans (World.drewN_drewN _ _ _) (congrArg (World.drewN _) (Nat.add_assoc _ _ _))⟩)) | (go_at_call 123; (with_reducible refine (impl_BitsOf.calls x11_1 t174 _ A13.out).mono ?_); rintro e w' ⟨rfl, ⟨nd, rfl⟩⟩; (try first | exact ⟨rfl, _, World.drewN_drewN _ _ _⟩ | exact ⟨rfl, _, Eq.trans (World.drewN_drewN _ _ _) (congrArg (World.drewN _) (Nat.add_assoc _ _ _))⟩))))
         go_ret2
         exact ⟨by first | rfl | (simp; done) | (simp only [← hji8, ← hji10, ← hji12] <;> (first | rfl | simp)) | (simp [*]; done), Z3⟩
        ·rw [if_neg c14] at H
         have c14b0 : ((Go.bits .and .u32 (ji10) (((ji12) - 1) % 4294967296)) == t174) = false := beq_eq_false_iff_ne.mpr c14
         have c14b1 : ((Go.bits .and .u32 (ji10) (((ji12) - 1) % 4294967296)) != t174) = true := bne_iff_ne.mpr c14
         have H' := Aside0.mk H
         clear H
         go_wp2_with (first | (go_at_call 122; (with_reducible refine (impl_WidthOf.calls x11_1 t173 _ A6.out).mono ?_); rintro e w' ⟨rfl, ⟨nd, rfl⟩⟩; (try first | exact ⟨rfl, _, World.drewN_drewN _ _ _⟩ | exact ⟨rfl, _, Eq.trans (World.drewN_drewN _ _ _) (congrArg (World.drewN _) (Nat.add_assoc _ _ _))⟩)) | (go_at_call 123; (with_reducible refine (impl_BitsOf.calls x11_1 t174 _ A13.out).mono ?_); rintro e w' ⟨rfl, ⟨nd, rfl⟩⟩; (try first | exact ⟨rfl, _, World.drewN_drewN _ _ _⟩ | exact ⟨rfl, _, Eq.trans (World.drewN_drewN _ _ _) (congrArg (World.drewN _) (Nat.add_assoc _ _ _))⟩)))
         repeat (go_quiet (first | (go_at_call 122; (with_reducible refine (impl_WidthOf.calls x11_1 t173 _ A6.out).mono ?_); rintro e w' ⟨rfl, ⟨nd, rfl⟩⟩; (try first | exact ⟨rfl, _, World.drewN_drewN _ _ _⟩ | exact ⟨rfl, _, Eq.trans (World.drewN_drewN _ _ _) (congrArg (World.drewN _) (Nat.add_assoc _ _ _))⟩)) | (go_at_call 123; (with_reducible refine (impl_BitsOf.calls x11_1 t174 _ A13.out).mono ?_); rintro e w' ⟨rfl, ⟨nd, rfl⟩⟩; (try first | exact ⟨rfl, _, World.drewN_drewN _ _ _⟩ | exact ⟨rfl, _, Eq.trans (World.drewN_drewN _ _ _) (congrArg (World.drewN _) (Nat.add_assoc _ _ _))⟩))); try go_wp2_with (first | (go_at_call 122; (with_reducible refine (impl_WidthOf.calls x11_1 t173 _ A6.out).mono ?_); rintro e w' ⟨rfl, ⟨nd, rfl⟩⟩; (try first | exact ⟨rfl, _, World.drewN_drewN _ _ _⟩ | exact ⟨rfl, _, Eq.trans (World.drewN_drewN _ _ _) (congrArg (World.drewN _) (Nat.add_assoc _ _ _))⟩)) | (go_at_call 123; (with_reducible refine (impl_BitsOf.calls x11_1 t174 _ A13.out).mono ?_); rintro e w' ⟨rfl, ⟨nd, rfl⟩⟩; (try first | exact ⟨rfl, _, World.drewN_drewN _ _ _⟩ | exact ⟨rfl, _, Eq.trans (World.drewN_drewN _ _ _) (congrArg (World.drewN _) (Nat.add_assoc _ _ _))⟩))))
         go_roundg k1
         case measure => have := HK1.out; omega
         case rel => exact ⟨(wrap64 (x11_1 + 1)), Z2, H', ⟨Z6⟩, Z3⟩
       ·rw [if_neg c11] at H
        exact absurd H (by simp)
      ·rw [if_neg c9] at H
       exact absurd H (by simp)
     ·rw [if_neg c7] at H
      have c7b0 : decide (t173 ≤ a1) = false := decide_eq_false c7
      clear c7
      have H' := Aside0.mk H
      clear H
      go_wp2_with (first | (go_at_call 122; (with_reducible refine (impl_WidthOf.calls x11_1 t173 _ A6.out).mono ?_); rintro e w' ⟨rfl, ⟨nd, rfl⟩⟩; (try first | exact ⟨rfl, _, World.drewN_drewN _ _ _⟩ | exact ⟨rfl, _, Eq.trans (World.drewN_drewN _ _ _) (congrArg (World.drewN _) (Nat.add_assoc _ _ _))⟩)))
      repeat (go_quiet (first | (go_at_call 122; (with_reducible refine (impl_WidthOf.calls x11_1 t173 _ A6.out).mono ?_); rintro e w' ⟨rfl, ⟨nd, rfl⟩⟩; (try first | exact ⟨rfl, _, World.drewN_drewN _ _ _⟩ | exact ⟨rfl, _, Eq.trans (World.drewN_drewN _ _ _) (congrArg (World.drewN _) (Nat.add_assoc _ _ _))⟩))); try go_wp2_with (first | (go_at_call 122; (with_reducible refine (impl_WidthOf.calls x11_1 t173 _ A6.out).mono ?_); rintro e w' ⟨rfl, ⟨nd, rfl⟩⟩; (try first | exact ⟨rfl, _, World.drewN_drewN _ _ _⟩ | exact ⟨rfl, _, Eq.trans (World.drewN_drewN _ _ _) (congrArg (World.drewN _) (Nat.add_assoc _ _ _))⟩))))
      go_roundg k1
      case measure => have := HK1.out; omega
      case rel => exact ⟨(wrap64 (x11_1 + 1)), Z2, H', ⟨Z6⟩, Z3⟩
    ·rw [if_neg c5] at H
     have c5b0 : decide (x11_1 < 48) = false := decide_eq_false c5
     clear c5
     simp only [Option.some.injEq, Prod.mk.injEq] at H
     obtain ⟨rfl, rfl⟩ := H
     go_wp2
     repeat (go_quiet (fail); try go_wp2)
     go_ret2
     exact ⟨Z2, Z3⟩
 ·replace c4 := Bool.eq_false_iff.mpr c4
  subst c4
  have H1 : (some ((-1), 0)) = some (r1, r2) := by rw [if_neg (show ¬ (false = true) by decide)] at H; exact H
  clear H
  have H := H1
  clear H1
  simp only [Option.some.injEq, Prod.mk.injEq] at H
  obtain ⟨rfl, rfl⟩ := H
  go_enter Try.func113, Try.ntmps113
  go_wp2_with (first | (go_at_call 103; (with_reducible refine (impl_within.calls a1 1 32 false _ A3.out).mono ?_); rintro e w' ⟨rfl, ⟨nd, rfl⟩⟩; (try first | exact ⟨rfl, _, World.drewN_drewN _ _ _⟩ | exact ⟨rfl, _, Eq.trans (World.drewN_drewN _ _ _) (congrArg (World.drewN _) (Nat.add_assoc _ _ _))⟩)))
  repeat (go_quiet (first | (go_at_call 103; (with_reducible refine (impl_within.calls a1 1 32 false _ A3.out).mono ?_); rintro e w' ⟨rfl, ⟨nd, rfl⟩⟩; (try first | exact ⟨rfl, _, World.drewN_drewN _ _ _⟩ | exact ⟨rfl, _, Eq.trans (World.drewN_drewN _ _ _) (congrArg (World.drewN _) (Nat.add_assoc _ _ _))⟩))); try go_wp2_with (first | (go_at_call 103; (with_reducible refine (impl_within.calls a1 1 32 false _ A3.out).mono ?_); rintro e w' ⟨rfl, ⟨nd, rfl⟩⟩; (try first | exact ⟨rfl, _, World.drewN_drewN _ _ _⟩ | exact ⟨rfl, _, Eq.trans (World.drewN_drewN _ _ _) (congrArg (World.drewN _) (Nat.add_assoc _ _ _))⟩))))
  go_ret2
  exact ⟨Z2, Z3⟩

end Go.Proofs.Ytkkiibjnpkjijaa.QFnExactListOk
