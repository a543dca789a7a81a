/-
Plain functions for the Go functions that a law reaches, each with a proof that the translation's call comes to just that; no conditions beyond those written in each.
-/
import Derived.Test.YtkkiibjnpkjijaaSFnExactPutItems
import Derived.Test.YtkkiibjnpkjijaaQFnExactPutItemsx1
import Derived.Test.YtkkiibjnpkjijaaQFnExactPutItemsx6
namespace Go.Proofs.Ytkkiibjnpkjijaa.QFnExactPutItems
open Go.RowKit Go.Proofs.YtkkiibjnpkjijaaW.PrintWords Go.Proofs.YtkkiibjnpkjijaaW.PrintLast Go.Proofs.YtkkiibjnpkjijaaW.PrintMore
attribute [local go_sem] max2_int min2_int max_two min_two max_three min_three max_four min_four   -- for this text's walks alone
set_option linter.unusedVariables false
set_option linter.unusedSimpArgs false

attribute [local go_sem high] eqA51
/-! ### impl_numberCells: function 79 -/
def impl_numberCells.f (a0 : Int) (a1 : Bool) (a2 : Int) (a3 : Int) : Option (List Int) := if a1 = true then (if a0 ≥ (-67108864) then (if a0 ≤ 67108863 then (some (([Go.bits .or .u32 (Go.bits .or .u32 ((((a0) % 4294967296) * 32) % 4294967296) 16) a2] : List Int))) else (some (([Go.bits .or .u32 16 a3, (a0) % 4294967296] : List Int)))) else (some (([Go.bits .or .u32 16 a3, (a0) % 4294967296] : List Int)))) else (if a0 ≥ (-67108864) then (if a0 ≤ 67108863 then (some (([Go.bits .or .u32 (Go.bits .or .u32 ((((a0) % 4294967296) * 32) % 4294967296) 0) a2] : List Int))) else (some (([Go.bits .or .u32 0 a3, (a0) % 4294967296] : List Int)))) else (some (([Go.bits .or .u32 0 a3, (a0) % 4294967296] : List Int))))
set_option maxHeartbeats 8000000 in
set_option maxRecDepth 100000 in
theorem impl_numberCells.calls (a0 : Int) (a1 : Bool) (a2 : Int) (a3 : Int) (r : List Int) (w : World) (h : impl_numberCells.f a0 a1 a2 a3 = some r) :
  Calls Try.prog 79 #[.int .i32 a0, .bool a1, .int .u32 a2, .int .u32 a3] w fun e w' => ∃ v0_ : Value, e = .returned (v0_) ∧ Kd.R (Kd.int .u32) 47 w' w.heap.size (fun _ => True) v0_ r ∧ Below w.heap.size w w' := by
 have HB := Z (Below.refl w.heap.size w)
 have H : (if a1 = true then (if a0 ≥ (-67108864) then (if a0 ≤ 67108863 then (some (([Go.bits .or .u32 (Go.bits .or .u32 ((((a0) % 4294967296) * 32) % 4294967296) 16) a2] : List Int))) else (some (([Go.bits .or .u32 16 a3, (a0) % 4294967296] : List Int)))) else (some (([Go.bits .or .u32 16 a3, (a0) % 4294967296] : List Int)))) else (if a0 ≥ (-67108864) then (if a0 ≤ 67108863 then (some (([Go.bits .or .u32 (Go.bits .or .u32 ((((a0) % 4294967296) * 32) % 4294967296) 0) a2] : List Int))) else (some (([Go.bits .or .u32 0 a3, (a0) % 4294967296] : List Int)))) else (some (([Go.bits .or .u32 0 a3, (a0) % 4294967296] : List Int))))) = some r := h
 clear h
 by_cases c5 : a1 = true
 ·subst c5
  have H1 : (if a0 ≥ (-67108864) then (if a0 ≤ 67108863 then (some (([Go.bits .or .u32 (Go.bits .or .u32 ((((a0) % 4294967296) * 32) % 4294967296) 16) a2] : List Int))) else (some (([Go.bits .or .u32 16 a3, (a0) % 4294967296] : List Int)))) else (some (([Go.bits .or .u32 16 a3, (a0) % 4294967296] : List Int)))) = some r := Z7
  clear H
  have H := H1
  clear H1
  by_cases c6 : a0 ≥ (-67108864)
  ·rw [if_pos c6] at H
   have c6b0 : decide ((-67108864) ≤ a0) = true := decide_eq_true c6
   clear c6
   by_cases c7 : a0 ≤ 67108863
   ·rw [if_pos c7] at H
    have c7b0 : decide (a0 ≤ 67108863) = true := decide_eq_true c7
    clear c7
    obtain ⟨y306, hy306⟩ : ∃ y_ : List Int, y_ = (([Go.bits .or .u32 (Go.bits .or .u32 ((((a0) % 4294967296) * 32) % 4294967296) 16) a2] : List Int)) := ⟨_, rfl⟩
    replace H : (some y306) = some r := by first | (rw [hy306]; with_reducible exact H) | (have H2_ := (Option.bind_some _ _).symm.trans H; rw [hy306]; with_reducible exact H2_) | (have H2_ := (Option.bind_some _ _).symm.trans H; with_reducible exact H2_) | with_reducible exact H | (rw [hy306]; exact H) | exact H
    have Ny306 := Aside0.mk hy306
    clear hy306
    obtain rfl := Option.some.inj H
    go_enter Try.func79, Try.ntmps79
    go_wp2_with (first | ((with_reducible refine gate_dst (N := 24) rfl ?_); refine Kd.R_lit (Kd.int .u32) _ 47 (by rfl) (N := 24) (by rfl) (xs := ([Go.bits .or .u32 (Go.bits .or .u32 ((((a0) % 4294967296) * 32) % 4294967296) 16) a2] : List Int)) (inner := [.int .u32 (Go.bits .or .u32 (Go.bits .or .u32 ((((a0) % 4294967296) * 32) % 4294967296) 16) a2)]) (ok := fun _ => True) (okp := fun _ => True) Z8 (Reps.one (show Kd.M (Kd.int .u32) _ _ _ (Go.bits .or .u32 (Go.bits .or .u32 ((((a0) % 4294967296) * 32) % 4294967296) 16) a2) [.int .u32 (Go.bits .or .u32 (Go.bits .or .u32 ((((a0) % 4294967296) * 32) % 4294967296) 16) a2)] from rfl) (Reps.none _ _)) (fun _ hk => hk) trivial (Below.refl _ _) (Nat.le_refl _) (by simp) ?_; intro v307 w8 ho9 hb hg_ hnew_; clear hg_ hnew_; (first | rw [← Ny306.out] at ho9 | (simp only [Int.reduceToNat] at ho9; rw [← Ny306.out] at ho9)); have HO308 := Z (Kd.R_lower ho9 (below_size Z42)); replace HB := Z (below_step Z42 hb); clear hb ho9))
    go_ret
    exact ⟨_, Z13, (Z14 HO308), Z42⟩
   ·rw [if_neg c7] at H
    have c7b0 : decide (a0 ≤ 67108863) = false := decide_eq_false c7
    clear c7
    obtain ⟨y309, hy309⟩ : ∃ y_ : List Int, y_ = (([Go.bits .or .u32 16 a3, (a0) % 4294967296] : List Int)) := ⟨_, rfl⟩
    replace H : (some y309) = some r := by first | (rw [hy309]; with_reducible exact H) | (have H2_ := (Option.bind_some _ _).symm.trans H; rw [hy309]; with_reducible exact H2_) | (have H2_ := (Option.bind_some _ _).symm.trans H; with_reducible exact H2_) | with_reducible exact H | (rw [hy309]; exact H) | exact H
    have Ny309 := Aside0.mk hy309
    clear hy309
    obtain rfl := Option.some.inj H
    go_enter Try.func79, Try.ntmps79
    go_wp2_with (first | ((with_reducible refine gate_dst (N := 30) rfl ?_); refine Kd.R_lit (Kd.int .u32) _ 47 (by rfl) (N := 30) (by rfl) (xs := ([Go.bits .or .u32 16 a3, (a0) % 4294967296] : List Int)) (inner := [.int .u32 (Go.bits .or .u32 16 a3), .int .u32 ((a0) % 4294967296)]) (ok := fun _ => True) (okp := fun _ => True) Z8 (Reps.one (show Kd.M (Kd.int .u32) _ _ _ (Go.bits .or .u32 16 a3) [.int .u32 (Go.bits .or .u32 16 a3)] from rfl) (Reps.one (show Kd.M (Kd.int .u32) _ _ _ ((a0) % 4294967296) [.int .u32 ((a0) % 4294967296)] from rfl) (Reps.none _ _))) (fun _ hk => hk) trivial (Below.refl _ _) (Nat.le_refl _) (by simp) ?_; intro v310 w10 ho11 hb hg_ hnew_; clear hg_ hnew_; (first | rw [← Ny309.out] at ho11 | (simp only [Int.reduceToNat] at ho11; rw [← Ny309.out] at ho11)); have HO311 := Z (Kd.R_lower ho11 (below_size Z42)); replace HB := Z (below_step Z42 hb); clear hb ho11))
    go_ret
    exact ⟨_, Z13, (Z14 HO311), Z42⟩
  ·rw [if_neg c6] at H
   have c6b0 : decide ((-67108864) ≤ a0) = false := decide_eq_false c6
   clear c6
   obtain ⟨y312, hy312⟩ : ∃ y_ : List Int, y_ = (([Go.bits .or .u32 16 a3, (a0) % 4294967296] : List Int)) := ⟨_, rfl⟩
   replace H : (some y312) = some r := by first | (rw [hy312]; with_reducible exact H) | (have H2_ := (Option.bind_some _ _).symm.trans H; rw [hy312]; with_reducible exact H2_) | (have H2_ := (Option.bind_some _ _).symm.trans H; with_reducible exact H2_) | with_reducible exact H | (rw [hy312]; exact H) | exact H
   have Ny312 := Aside0.mk hy312
   clear hy312
   obtain rfl := Option.some.inj H
   go_enter Try.func79, Try.ntmps79
   go_wp2_with (first | ((with_reducible refine gate_dst (N := 30) rfl ?_); refine Kd.R_lit (Kd.int .u32) _ 47 (by rfl) (N := 30) (by rfl) (xs := ([Go.bits .or .u32 16 a3, (a0) % 4294967296] : List Int)) (inner := [.int .u32 (Go.bits .or .u32 16 a3), .int .u32 ((a0) % 4294967296)]) (ok := fun _ => True) (okp := fun _ => True) Z8 (Reps.one (show Kd.M (Kd.int .u32) _ _ _ (Go.bits .or .u32 16 a3) [.int .u32 (Go.bits .or .u32 16 a3)] from rfl) (Reps.one (show Kd.M (Kd.int .u32) _ _ _ ((a0) % 4294967296) [.int .u32 ((a0) % 4294967296)] from rfl) (Reps.none _ _))) (fun _ hk => hk) trivial (Below.refl _ _) (Nat.le_refl _) (by simp) ?_; intro v313 w12 ho13 hb hg_ hnew_; clear hg_ hnew_; (first | rw [← Ny312.out] at ho13 | (simp only [Int.reduceToNat] at ho13; rw [← Ny312.out] at ho13)); have HO314 := Z (Kd.R_lower ho13 (below_size Z42)); replace HB := Z (below_step Z42 hb); clear hb ho13))
   go_ret
   exact ⟨_, Z13, (Z14 HO314), Z42⟩
 ·replace c5 := Bool.eq_false_iff.mpr c5
  subst c5
  have H1 : (if a0 ≥ (-67108864) then (if a0 ≤ 67108863 then (some (([Go.bits .or .u32 (Go.bits .or .u32 ((((a0) % 4294967296) * 32) % 4294967296) 0) a2] : List Int))) else (some (([Go.bits .or .u32 0 a3, (a0) % 4294967296] : List Int)))) else (some (([Go.bits .or .u32 0 a3, (a0) % 4294967296] : List Int)))) = some r := by rw [if_neg (show ¬ (false = true) by decide)] at H; exact H
  clear H
  have H := H1
  clear H1
  by_cases c14 : a0 ≥ (-67108864)
  ·rw [if_pos c14] at H
   have c14b0 : decide ((-67108864) ≤ a0) = true := decide_eq_true c14
   clear c14
   by_cases c15 : a0 ≤ 67108863
   ·rw [if_pos c15] at H
    have c15b0 : decide (a0 ≤ 67108863) = true := decide_eq_true c15
    clear c15
    obtain ⟨y315, hy315⟩ : ∃ y_ : List Int, y_ = (([Go.bits .or .u32 (Go.bits .or .u32 ((((a0) % 4294967296) * 32) % 4294967296) 0) a2] : List Int)) := ⟨_, rfl⟩
    replace H : (some y315) = some r := by first | (rw [hy315]; with_reducible exact H) | (have H2_ := (Option.bind_some _ _).symm.trans H; rw [hy315]; with_reducible exact H2_) | (have H2_ := (Option.bind_some _ _).symm.trans H; with_reducible exact H2_) | with_reducible exact H | (rw [hy315]; exact H) | exact H
    have Ny315 := Aside0.mk hy315
    clear hy315
    obtain rfl := Option.some.inj H
    go_enter Try.func79, Try.ntmps79
    go_wp2_with (first | ((with_reducible refine gate_dst (N := 24) rfl ?_); refine Kd.R_lit (Kd.int .u32) _ 47 (by rfl) (N := 24) (by rfl) (xs := ([Go.bits .or .u32 (Go.bits .or .u32 ((((a0) % 4294967296) * 32) % 4294967296) 0) a2] : List Int)) (inner := [.int .u32 (Go.bits .or .u32 (Go.bits .or .u32 ((((a0) % 4294967296) * 32) % 4294967296) 0) a2)]) (ok := fun _ => True) (okp := fun _ => True) Z8 (Reps.one (show Kd.M (Kd.int .u32) _ _ _ (Go.bits .or .u32 (Go.bits .or .u32 ((((a0) % 4294967296) * 32) % 4294967296) 0) a2) [.int .u32 (Go.bits .or .u32 (Go.bits .or .u32 ((((a0) % 4294967296) * 32) % 4294967296) 0) a2)] from rfl) (Reps.none _ _)) (fun _ hk => hk) trivial (Below.refl _ _) (Nat.le_refl _) (by simp) ?_; intro v316 w16 ho17 hb hg_ hnew_; clear hg_ hnew_; (first | rw [← Ny315.out] at ho17 | (simp only [Int.reduceToNat] at ho17; rw [← Ny315.out] at ho17)); have HO317 := Z (Kd.R_lower ho17 (below_size Z42)); replace HB := Z (below_step Z42 hb); clear hb ho17))
    go_ret
    exact ⟨_, Z13, (Z14 HO317), Z42⟩
   ·rw [if_neg c15] at H
    have c15b0 : decide (a0 ≤ 67108863) = false := decide_eq_false c15
    clear c15
    obtain ⟨y318, hy318⟩ : ∃ y_ : List Int, y_ = (([Go.bits .or .u32 0 a3, (a0) % 4294967296] : List Int)) := ⟨_, rfl⟩
    replace H : (some y318) = some r := by first | (rw [hy318]; with_reducible exact H) | (have H2_ := (Option.bind_some _ _).symm.trans H; rw [hy318]; with_reducible exact H2_) | (have H2_ := (Option.bind_some _ _).symm.trans H; with_reducible exact H2_) | with_reducible exact H | (rw [hy318]; exact H) | exact H
    have Ny318 := Aside0.mk hy318
    clear hy318
    obtain rfl := Option.some.inj H
    go_enter Try.func79, Try.ntmps79
    go_wp2_with (first | ((with_reducible refine gate_dst (N := 30) rfl ?_); refine Kd.R_lit (Kd.int .u32) _ 47 (by rfl) (N := 30) (by rfl) (xs := ([Go.bits .or .u32 0 a3, (a0) % 4294967296] : List Int)) (inner := [.int .u32 (Go.bits .or .u32 0 a3), .int .u32 ((a0) % 4294967296)]) (ok := fun _ => True) (okp := fun _ => True) Z8 (Reps.one (show Kd.M (Kd.int .u32) _ _ _ (Go.bits .or .u32 0 a3) [.int .u32 (Go.bits .or .u32 0 a3)] from rfl) (Reps.one (show Kd.M (Kd.int .u32) _ _ _ ((a0) % 4294967296) [.int .u32 ((a0) % 4294967296)] from rfl) (Reps.none _ _))) (fun _ hk => hk) trivial (Below.refl _ _) (Nat.le_refl _) (by simp) ?_; intro v319 w18 ho19 hb hg_ hnew_; clear hg_ hnew_; (first | rw [← Ny318.out] at ho19 | (simp only [Int.reduceToNat] at ho19; rw [← Ny318.out] at ho19)); have HO320 := Z (Kd.R_lower ho19 (below_size Z42)); replace HB := Z (below_step Z42 hb); clear hb ho19))
    go_ret
    exact ⟨_, Z13, (Z14 HO320), Z42⟩
  ·rw [if_neg c14] at H
   have c14b0 : decide ((-67108864) ≤ a0) = false := decide_eq_false c14
   clear c14
   obtain ⟨y321, hy321⟩ : ∃ y_ : List Int, y_ = (([Go.bits .or .u32 0 a3, (a0) % 4294967296] : List Int)) := ⟨_, rfl⟩
   replace H : (some y321) = some r := by first | (rw [hy321]; with_reducible exact H) | (have H2_ := (Option.bind_some _ _).symm.trans H; rw [hy321]; with_reducible exact H2_) | (have H2_ := (Option.bind_some _ _).symm.trans H; with_reducible exact H2_) | with_reducible exact H | (rw [hy321]; exact H) | exact H
   have Ny321 := Aside0.mk hy321
   clear hy321
   obtain rfl := Option.some.inj H
   go_enter Try.func79, Try.ntmps79
   go_wp2_with (first | ((with_reducible refine gate_dst (N := 30) rfl ?_); refine Kd.R_lit (Kd.int .u32) _ 47 (by rfl) (N := 30) (by rfl) (xs := ([Go.bits .or .u32 0 a3, (a0) % 4294967296] : List Int)) (inner := [.int .u32 (Go.bits .or .u32 0 a3), .int .u32 ((a0) % 4294967296)]) (ok := fun _ => True) (okp := fun _ => True) Z8 (Reps.one (show Kd.M (Kd.int .u32) _ _ _ (Go.bits .or .u32 0 a3) [.int .u32 (Go.bits .or .u32 0 a3)] from rfl) (Reps.one (show Kd.M (Kd.int .u32) _ _ _ ((a0) % 4294967296) [.int .u32 ((a0) % 4294967296)] from rfl) (Reps.none _ _))) (fun _ hk => hk) trivial (Below.refl _ _) (Nat.le_refl _) (by simp) ?_; intro v322 w20 ho21 hb hg_ hnew_; clear hg_ hnew_; (first | rw [← Ny321.out] at ho21 | (simp only [Int.reduceToNat] at ho21; rw [← Ny321.out] at ho21)); have HO323 := Z (Kd.R_lower ho21 (below_size Z42)); replace HB := Z (below_step Z42 hb); clear hb ho21))
   go_ret
   exact ⟨_, Z13, (Z14 HO323), Z42⟩

/-! ### impl_CellsOf: function 43 -/
mutual
def impl_CellsOf.j0 : Nat → Int → Bool → Int → ByteArray → Int → Bool → Int → Option (List Int)
 | 0, _, _, _, _, _, _, _ => none
 | k + 1, x3, x11, x325000, x325001, x325002, x325003, x325004 => if x11 = true then ((impl_Pack.f k x325001).bind fun t329 => (impl_CellsOf.l0 k x3 (([] : List Int)) t329 (t329.length : Int) 0)) else (if (x325000 == 7 && (x325001.toList == ([] : List UInt8) && (x325004 == 0))) = true then ((impl_numberCells.f x325002 x325003 8 2).bind fun t336 => (some t336)) else (if (x325000 == 8 && (x325001.toList == ([] : List UInt8) && (x325004 == 0))) = true then ((impl_numberCells.f x325002 x325003 6 5).bind fun t339 => (some t339)) else (if (x325000 == 9 && (!x325003 && (x325004 == 0))) = true then ((impl_Pack.f k x325001).bind fun t342 => (if (t342.length : Int) = 1 then (if 0 < (t342.length : Int) then (some (([Go.bits .or .u32 (((rd t342 0) * 16) % 4294967296) 12, (x325002) % 4294967296] : List Int))) else (none)) else (some ([] : List Int)))) else (if (x325000 == 0 && (x325001.toList == ([] : List UInt8) && (x325002 == 0 && (!x325003)))) = true then (some (([x325004] : List Int))) else (some ([] : List Int))))))
def impl_CellsOf.l0 : Nat → Int → List Int → List Int → Int → Int → Option (List Int)
 | 0, _, _, _, _, _ => none
 | k + 1, x3, x4, x26, x27, x28 => if x28 < x27 then (if 0 ≤ x28 then (if x28 < (x26.length : Int) then (if x4.length < 35184372088832 then (impl_CellsOf.l0 k 0 (x4 ++ [Go.bits .or .u32 (((rd x26 x28) * 16) % 4294967296) x3]) x26 x27 (wrap64 (x28 + 1))) else (none)) else (none)) else (none)) else (some x4)
end
def impl_CellsOf.f (k : Nat) (a0_0 : Int) (a0_1 : ByteArray) (a0_2 : Int) (a0_3 : Bool) (a0_4 : Int) : Option (List Int) := (impl_nameTag.f a0_0).bind fun t325 => (if t325 > 0 then (impl_CellsOf.j0 k t325 (a0_2 == 0 && (!a0_3 && (a0_4 == 0))) a0_0 a0_1 a0_2 a0_3 a0_4) else (impl_CellsOf.j0 k t325 false a0_0 a0_1 a0_2 a0_3 a0_4))
theorem impl_CellsOf.mono_l : ∀ k, (∀ y0 y1 y2 y3 y4 y5 y6, LeO (impl_CellsOf.j0 k y0 y1 y2 y3 y4 y5 y6) (impl_CellsOf.j0 (k + 1) y0 y1 y2 y3 y4 y5 y6)) ∧ (∀ y0 y1 y2 y3 y4, LeO (impl_CellsOf.l0 k y0 y1 y2 y3 y4) (impl_CellsOf.l0 (k + 1) y0 y1 y2 y3 y4))
 | 0 => ⟨fun _ _ _ _ _ _ _ r h => by simp [impl_CellsOf.j0] at h, fun _ _ _ _ _ r h => by simp [impl_CellsOf.l0] at h⟩
 | k + 1 => by
  obtain ⟨ih0, ih1⟩ := impl_CellsOf.mono_l k
  refine ⟨?_, ?_⟩
  ·intro y0 y1 y2 y3 y4 y5 y6
   unfold impl_CellsOf.j0
   repeat' first
   | (with_reducible exact ih0 _ _ _ _ _ _ _)
   | (with_reducible exact ih1 _ _ _ _ _)
   | (with_reducible exact impl_Pack.mono _ _)
   | (with_reducible exact LeO.refl _)
   | (with_reducible exact LeO.none _)
   | (with_reducible refine LeO.ite ?_ ?_)
   | (with_reducible refine LeO.bind ?_ (fun _ => ?_))
   | exact ih0 _ _ _ _ _ _ _
   | exact ih1 _ _ _ _ _
   | exact impl_Pack.mono _ _
   | exact LeO.none _
   | refine LeO.ite ?_ ?_
   | refine LeO.bind ?_ (fun _ => ?_)
  ·intro y0 y1 y2 y3 y4
   unfold impl_CellsOf.l0
   repeat' first
   | (with_reducible exact ih0 _ _ _ _ _ _ _)
   | (with_reducible exact ih1 _ _ _ _ _)
   | (with_reducible exact impl_Pack.mono _ _)
   | (with_reducible exact LeO.refl _)
   | (with_reducible exact LeO.none _)
   | (with_reducible refine LeO.ite ?_ ?_)
   | (with_reducible refine LeO.bind ?_ (fun _ => ?_))
   | exact ih0 _ _ _ _ _ _ _
   | exact ih1 _ _ _ _ _
   | exact impl_Pack.mono _ _
   | exact LeO.none _
   | refine LeO.ite ?_ ?_
   | refine LeO.bind ?_ (fun _ => ?_)
theorem impl_CellsOf.mono : ∀ a0 a1 a2 a3 a4 k, LeO (impl_CellsOf.f k a0 a1 a2 a3 a4) (impl_CellsOf.f (k + 1) a0 a1 a2 a3 a4) := by
 intro a0 a1 a2 a3 a4 k
 obtain ⟨ih0, ih1⟩ := impl_CellsOf.mono_l k
 unfold impl_CellsOf.f
 repeat' first
   | (with_reducible exact ih0 _ _ _ _ _ _ _)
   | (with_reducible exact ih1 _ _ _ _ _)
   | (with_reducible exact impl_Pack.mono _ _)
   | (with_reducible exact LeO.refl _)
   | (with_reducible exact LeO.none _)
   | (with_reducible refine LeO.ite ?_ ?_)
   | (with_reducible refine LeO.bind ?_ (fun _ => ?_))
   | exact ih0 _ _ _ _ _ _ _
   | exact ih1 _ _ _ _ _
   | exact impl_Pack.mono _ _
   | exact LeO.none _
   | refine LeO.ite ?_ ?_
   | refine LeO.bind ?_ (fun _ => ?_)
def impl_CellsOf.T18 : Bool × List (List Nat × List Nat) := (true, [([], []), ([0], [0]), ([1], [1]), ([2], [2]), ([3], [3]), ([], []), ([5], [5]), ([6], [6]), ([4, 7], [4, 7]), ([8, 0, 1, 2, 3, 4, 5, 6, 7, 8], [8])])
def impl_CellsOf.B18 : List Nat := [0, 1, 3, 7, 15, 0, 32, 96, 255, 511]
theorem impl_CellsOf.tab18 : rtab .any (opsOf Try.f43 18) = impl_CellsOf.T18 := Z0
theorem impl_CellsOf.bits18 : waitsOk impl_CellsOf.T18.2 impl_CellsOf.B18 = true := Z0
set_option maxHeartbeats 8000000 in
set_option maxRecDepth 100000 in
theorem impl_CellsOf.calls (k : Nat) (a0_0 : Int) (a0_1 : ByteArray) (a0_2 : Int) (a0_3 : Bool) (a0_4 : Int) (r : List Int) (w : World) (h : impl_CellsOf.f k a0_0 a0_1 a0_2 a0_3 a0_4 = some r) :
  Calls Try.prog 43 #[.agg #[.int .i64 a0_0, .string a0_1, .int .i32 a0_2, .bool a0_3, .int .u32 a0_4]] w fun e w' => ∃ v0_ : Value, e = .returned (v0_) ∧ Kd.R (Kd.int .u32) 47 w' w.heap.size (fun _ => True) v0_ r ∧ Below w.heap.size w w' := by
 have hu51 := Try.underlying51
 have HB := Z (Below.refl w.heap.size w)
 have H : ((impl_nameTag.f a0_0).bind fun t325 => (if t325 > 0 then (impl_CellsOf.j0 k t325 (a0_2 == 0 && (!a0_3 && (a0_4 == 0))) a0_0 a0_1 a0_2 a0_3 a0_4) else (impl_CellsOf.j0 k t325 false a0_0 a0_1 a0_2 a0_3 a0_4))) = some r := h
 clear h
 replace H := Option.bind_eq_some_iff.mp H
 obtain ⟨t325, A20, H⟩ := H
 replace H : (if t325 > 0 then (impl_CellsOf.j0 k t325 (a0_2 == 0 && (!a0_3 && (a0_4 == 0))) a0_0 a0_1 a0_2 a0_3 a0_4) else (impl_CellsOf.j0 k t325 false a0_0 a0_1 a0_2 a0_3 a0_4)) = some r := H
 have A2 := Aside0.mk A20
 clear A20
 have HC3 := Aside0.mk H
 clear H
 go_enter Try.func43, Try.ntmps43
 go_upto_region 2 with (first | ((with_reducible refine gate_dst (N := 1) rfl ?_); refine box_event (by rfl) (N := 1) (by rfl) (cs := #[.int .i64 a0_0, .string a0_1, .int .i32 a0_2, .bool a0_3, .int .u32 a0_4]) (t := 51) Z8 ?_; intro gb324 hg w4 hbox hb; have BK324 := Z (hbox); have GW324 := Z ((Z63 : w.heap.size ≤ gb324)); have GE324 := Z ((Z63 : w.heap.size ≤ gb324)); replace HB := Z (below_step Z42 hb); clear hb hbox hg; have hcz5_0 : w4.cell? ⟨gb324, 0, none⟩ = some (.int .i64 a0_0) := (blk_cell BK324.out 0).trans rfl; have hcz5_1 : w4.cell? ⟨gb324, 1, none⟩ = some (.string a0_1) := (blk_cell BK324.out 1).trans rfl; have hcz5_2 : w4.cell? ⟨gb324, 2, none⟩ = some (.int .i32 a0_2) := (blk_cell BK324.out 2).trans rfl; have hcz5_3 : w4.cell? ⟨gb324, 3, none⟩ = some (.bool a0_3) := (blk_cell BK324.out 3).trans rfl; have hcz5_4 : w4.cell? ⟨gb324, 4, none⟩ = some (.int .u32 a0_4) := (blk_cell BK324.out 4).trans rfl; have hfz5_0 := blk_frozen BK324.out 0; have hfz5_1 := blk_frozen BK324.out 1; have hfz5_2 := blk_frozen BK324.out 2; have hfz5_3 := blk_frozen BK324.out 3; have hfz5_4 := blk_frozen BK324.out 4) | ((with_reducible refine gate_callee (f := 70) rfl ?_); refine goesL_ (some 10) rfl rfl Try.func70 Z0 rfl #[.int .i64 a0_0] rfl Z11 ?_; (with_reducible refine (impl_nameTag.calls a0_0 t325 _ A2.out).mono ?_); rintro e w' ⟨rfl, ⟨nd, rfl⟩⟩; refine ⟨_, rfl, ?_⟩))
 (try simp only [Act.put, List.setIfInBounds_toArray, List.set_cons_zero, List.set_cons_succ])
 go_cut [11] (fun v11 wc => ∃ (kq : Nat) (x11_2 : Bool), v11 = .bool x11_2 ∧ Aside0 (impl_CellsOf.j0 kq t325 x11_2 a0_0 a0_1 a0_2 a0_3 a0_4 = some r) ∧ Aside0 (kq ≤ k) ∧ Aside0 (wc.heap[gb324]? = some (.cells #[.int .i64 a0_0, .string a0_1, .int .i32 a0_2, .bool a0_3, .int .u32 a0_4] 51 (0, 0))) ∧ Aside0 (Below w.heap.size w wc))
 case first =>
  have H := HC3.out
  clear HC3
  by_cases c6 : t325 > 0
  ·rw [if_pos c6] at H
   have c6b0 : decide (0 < t325) = true := decide_eq_true c6
   clear c6
   (first | rw [c6b0] | (simp only [i64_w, i32_w]; rw [c6b0]) | skip)
   have H' := Aside0.mk H
   clear H
   have hcz7_0 : w4.cell? ⟨gb324, 0, none⟩ = some (.int .i64 a0_0) := (blk_cell BK324.out 0).trans rfl
   have hcz7_1 : w4.cell? ⟨gb324, 1, none⟩ = some (.string a0_1) := (blk_cell BK324.out 1).trans rfl
   have hcz7_2 : w4.cell? ⟨gb324, 2, none⟩ = some (.int .i32 a0_2) := (blk_cell BK324.out 2).trans rfl
   have hcz7_3 : w4.cell? ⟨gb324, 3, none⟩ = some (.bool a0_3) := (blk_cell BK324.out 3).trans rfl
   have hcz7_4 : w4.cell? ⟨gb324, 4, none⟩ = some (.int .u32 a0_4) := (blk_cell BK324.out 4).trans rfl
   have hfz7_0 := blk_frozen BK324.out 0
   have hfz7_1 := blk_frozen BK324.out 1
   have hfz7_2 := blk_frozen BK324.out 2
   have hfz7_3 := blk_frozen BK324.out 3
   have hfz7_4 := blk_frozen BK324.out 4
   go_wp2
   go_meet
   case rel => exact ⟨_, ((a0_2 == 0 && (!a0_3 && (a0_4 == 0)))), Z3, H', ⟨Z17⟩, ⟨(Z10 BK324)⟩, ⟨Z42⟩⟩
  ·rw [if_neg c6] at H
   have c6b0 : decide (0 < t325) = false := decide_eq_false c6
   clear c6
   (first | rw [c6b0] | (simp only [i64_w, i32_w]; rw [c6b0]) | skip)
   have H' := Aside0.mk H
   clear H
   go_wp2
   go_meet
   case rel => exact ⟨_, (false), Z3, H', ⟨Z17⟩, ⟨(Z10 BK324)⟩, ⟨Z42⟩⟩
 case rest =>
  clear HC3
  try clear p2
  try clear c4
  try clear c6
  try clear c6b0
  try clear c7
  try clear hcz5_0
  try clear hcz5_1
  try clear hcz5_2
  try clear hcz5_3
  try clear hcz5_4
  try clear hcz7_0
  try clear hcz7_1
  try clear hcz7_2
  try clear hcz7_3
  try clear hcz7_4
  try clear hfz5_0
  try clear hfz5_1
  try clear hfz5_2
  try clear hfz5_3
  try clear hfz5_4
  try clear hfz7_0
  try clear hfz7_1
  try clear hfz7_2
  try clear hfz7_3
  try clear hfz7_4
  obtain ⟨kq, x11_2, rfl, HA, HJ2, BK324, HB⟩ := hcut
  cases kq with
  | zero => exact absurd HA.out (by simp [impl_CellsOf.j0])
  | succ kj2 =>
   have H := HA.out
   clear HA
   simp only [impl_CellsOf.j0] at H
   by_cases c8 : x11_2 = true
   ·subst c8
    have H1 : ((impl_Pack.f kj2 a0_1).bind fun t329 => (impl_CellsOf.l0 kj2 t325 (([] : List Int)) t329 (t329.length : Int) 0)) = some r := Z7
    clear H
    have H := H1
    clear H1
    obtain ⟨y326, hy326⟩ : ∃ y_ : List Int, y_ = (([] : List Int)) := ⟨_, rfl⟩
    replace H : ((impl_Pack.f kj2 a0_1).bind fun t329 => (impl_CellsOf.l0 kj2 t325 y326 t329 (t329.length : Int) 0)) = some r := by first | (rw [hy326]; with_reducible exact H) | (have H2_ := (Option.bind_some _ _).symm.trans H; rw [hy326]; with_reducible exact H2_) | (have H2_ := (Option.bind_some _ _).symm.trans H; with_reducible exact H2_) | with_reducible exact H | (rw [hy326]; exact H) | exact H
    have Ny326 := Aside0.mk hy326
    clear hy326
    replace H := Option.bind_eq_some_iff.mp H
    obtain ⟨t329, A90, H⟩ := H
    replace H : (impl_CellsOf.l0 kj2 t325 y326 t329 (t329.length : Int) 0) = some r := H
    have A9 := Aside0.mk A90
    clear A90
    have H' := Aside0.mk H
    clear H
    go_wp2_with (first | ((with_reducible refine gate_dst (N := 23) rfl ?_); refine Kd.R_lit (Kd.int .u32) _ 47 (by rfl) (N := 23) (by rfl) (xs := ([] : List Int)) (inner := []) (ok := fun _ => True) (okp := fun _ => True) Z8 (Reps.none _ _) (fun _ hk => hk) trivial (Below.refl _ _) (Nat.le_refl _) (by simp) ?_; intro v327 w10 ho11 hb hg_ hnew_; clear hg_ hnew_; (first | rw [← Ny326.out] at ho11 | (simp only [Int.reduceToNat] at ho11; rw [← Ny326.out] at ho11)); have HO328 := Z (Kd.R_lower ho11 (below_size Z42)); replace BK324 := Z (blk_below (g := gb324) (o := .cells #[.int .i64 a0_0, .string a0_1, .int .i32 a0_2, .bool a0_3, .int .u32 a0_4] 51 (0, 0)) (Z10 BK324) hb); replace HB := Z (below_step Z42 hb); clear hb ho11; have hcz12_0 : w10.cell? ⟨gb324, 0, none⟩ = some (.int .i64 a0_0) := (blk_cell BK324.out 0).trans rfl; have hcz12_1 : w10.cell? ⟨gb324, 1, none⟩ = some (.string a0_1) := (blk_cell BK324.out 1).trans rfl; have hcz12_2 : w10.cell? ⟨gb324, 2, none⟩ = some (.int .i32 a0_2) := (blk_cell BK324.out 2).trans rfl; have hcz12_3 : w10.cell? ⟨gb324, 3, none⟩ = some (.bool a0_3) := (blk_cell BK324.out 3).trans rfl; have hcz12_4 : w10.cell? ⟨gb324, 4, none⟩ = some (.int .u32 a0_4) := (blk_cell BK324.out 4).trans rfl; have hfz12_0 := blk_frozen BK324.out 0; have hfz12_1 := blk_frozen BK324.out 1; have hfz12_2 := blk_frozen BK324.out 2; have hfz12_3 := blk_frozen BK324.out 3; have hfz12_4 := blk_frozen BK324.out 4) | ((with_reducible refine gate_callee (f := 78) rfl ?_); refine goesL_ (some 26) rfl rfl Try.func78 Z0 rfl #[.string a0_1] rfl Z11 ?_; (with_reducible refine (impl_Pack.calls kj2 a0_1 t329 _ A9.out).mono ?_); rintro e w13 ⟨v330, rfl, ho0, hb⟩; refine ⟨_, rfl, ?_⟩; have HO331 := Z (Kd.R_lower (Kd.R_new' ho0 (Kd.R_lt (Z14 HO328))) (below_size Z42)); replace HO328 := Z (Kd.R_elder' (Z14 HO328) (Kd.R_base ho0) hb); replace BK324 := Z (blk_below (g := gb324) (o := .cells #[.int .i64 a0_0, .string a0_1, .int .i32 a0_2, .bool a0_3, .int .u32 a0_4] 51 (0, 0)) (Z10 BK324) hb); replace HB := Z (below_step Z42 hb); (try clear hb); (try clear hb2); (try clear hk); (try clear hi); (try clear ho0); obtain ⟨Ao14, co14, eo14⟩ := Kd.R_slice HO331.out; subst eo14))
    go_loopg [3, 4, 28] kj2 (fun kq v3 v4 v28 w' => ∃ (x3_2 : Int) (x4_2 : List Int) (x28_2 : Int), v3 = .int .u32 x3_2 ∧ v28 = .int .i64 x28_2 ∧ Aside0 (impl_CellsOf.l0 kq x3_2 x4_2 t329 (t329.length : Int) x28_2 = some r) ∧ Aside0 (kq ≤ kj2) ∧ Aside0 (Kd.R (Kd.int .u32) 47 w' w.heap.size (fun k_ => some k_ ≠ ((.slice Ao14 t329.length co14) : Value).ownBlock) v4 x4_2) ∧ Aside0 (Kd.R (Kd.int .u32) 47 w' w.heap.size (fun k_ => some k_ ≠ (v4 : Value).ownBlock) (.slice Ao14 t329.length co14) t329) ∧ Aside0 (w'.heap[gb324]? = some (.cells #[.int .i64 a0_0, .string a0_1, .int .i32 a0_2, .bool a0_3, .int .u32 a0_4] 51 (0, 0))) ∧ Aside0 (Below w.heap.size w w'))
    case atStart => exact ⟨(t325), (y326), (0), Z3, Z3, H', ⟨Nat.le_refl _⟩, ⟨(Z22 HO328)⟩, ⟨(Z22 HO331)⟩, ⟨(Z10 BK324)⟩, ⟨Z42⟩⟩
    case round =>
     clear H'
     try clear p2
     try clear c4
     try clear c6
     try clear c6b0
     try clear c7
     try clear c8
     try clear hcz12_0
     try clear hcz12_1
     try clear hcz12_2
     try clear hcz12_3
     try clear hcz12_4
     try clear hcz5_0
     try clear hcz5_1
     try clear hcz5_2
     try clear hcz5_3
     try clear hcz5_4
     try clear hcz7_0
     try clear hcz7_1
     try clear hcz7_2
     try clear hcz7_3
     try clear hcz7_4
     try clear hfz12_0
     try clear hfz12_1
     try clear hfz12_2
     try clear hfz12_3
     try clear hfz12_4
     try clear hfz5_0
     try clear hfz5_1
     try clear hfz5_2
     try clear hfz5_3
     try clear hfz5_4
     try clear hfz7_0
     try clear hfz7_1
     try clear hfz7_2
     try clear hfz7_3
     try clear hfz7_4
     try clear p2
     obtain ⟨x3_2, x4_2, x28_2, rfl, rfl, HA, HK2, HO_4, HO_26, BK324, HB⟩ := hrel
     cases gk with
     | zero => exact absurd HA.out (by simp [impl_CellsOf.l0])
     | succ k2 =>
      have H := HA.out
      clear HA
      simp only [impl_CellsOf.l0] at H
      by_cases c15 : x28_2 < (t329.length : Int)
      ·rw [if_pos c15] at H
       have c15b0 : decide (x28_2 < (t329.length : Int)) = true := decide_eq_true c15
       clear c15
       by_cases c16 : 0 ≤ x28_2
       ·rw [if_pos c16] at H
        have c16b0 : decide (0 ≤ x28_2) = true := decide_eq_true c16
        clear c16
        by_cases c17 : x28_2 < (t329.length : Int)
        ·rw [if_pos c17] at H
         have c17b0 : decide (x28_2 < (t329.length : Int)) = true := decide_eq_true c17
         clear c17
         by_cases c18 : x4_2.length < 35184372088832
         ·rw [if_pos c18] at H
          have LMc18 := Aside0.mk c18
          clear c18
          obtain ⟨y333, hy333⟩ : ∃ y_ : List Int, y_ = (x4_2 ++ [Go.bits .or .u32 (((rd t329 x28_2) * 16) % 4294967296) x3_2]) := ⟨_, rfl⟩
          replace H : (impl_CellsOf.l0 k2 0 y333 t329 (t329.length : Int) (wrap64 (x28_2 + 1))) = some r := by first | (rw [hy333]; with_reducible exact H) | (have H2_ := (Option.bind_some _ _).symm.trans H; rw [hy333]; with_reducible exact H2_) | (have H2_ := (Option.bind_some _ _).symm.trans H; with_reducible exact H2_) | with_reducible exact H | (rw [hy333]; exact H) | exact H
          have Ny333 := Aside0.mk hy333
          clear hy333
          have H' := Aside0.mk H
          clear H
          have p332 : 0 ≤ (x28_2 : Int) := of_decide_eq_true Z5
          have q332 : x28_2 < (t329.length : Int) := of_decide_eq_true Z5
          obtain ⟨ad332, e332, hx332_0⟩ := Kd.at_int (Kd.R_reads' HO_26.out).2.2 x28_2 p332 q332
          cases e332
          replace p332 := eq_true p332
          replace q332 := eq_true q332
          go_wp2_with (first | ((with_reducible refine gate_builtin (b := .append) (xs := #[.tmp 32, .tmp 37]) rfl ?_); at_builtin; refine Kd.R_append (Kd.int .u32) (w0 := w) w.heap.size rfl (.tmp 32) (.tmp 37) 24 47 (.int .u32 0) 4 rfl Try.underlying24 info47 rfl (by decide) (by omega) u4 x4_2 (Go.bits .or .u32 (((rd t329 x28_2) * 16) % 4294967296) x3_2) [.int .u32 (Go.bits .or .u32 (((rd t329 x28_2) * 16) % 4294967296) x3_2)] (fun k_ => some k_ ≠ (.slice (some ad332) t329.length co14 : Value).ownBlock) (fun _ => False) rfl rfl ?aP (fun _ hk => hk.elim) ?aF ?aO ?aB ?aS ?aL ?_; (case aP => exact rfl); (case aB => exact Z42); (case aF => exact (fun k_ hk => Kd.fresh' (Kd.R_lt (Z14 HO_26)) k_ hk)); (case aO => exact (Z14 HO_4)); (case aS => exact (below_size Z42)); (case aL => have := LMc18.out; omega); intro v334 w19 ho hb hg hat; rw [← Ny333.out] at ho; replace HO_26 := Z (Kd.R_after (ok := (fun _ => True)) (by (with_reducible repeat (first | apply Kd.R_alloc | apply Kd.R_drewN | apply Kd.R_drew)); exact Kd.R_mono HO_26.out (fun _ hk => ⟨trivial, hk⟩)) hg hat); replace BK324 := Z (blk_grown (g := gb324) (o := .cells #[.int .i64 a0_0, .string a0_1, .int .i32 a0_2, .bool a0_3, .int .u32 a0_4] 51 (0, 0)) (Z10 BK324) hg (Kd.R_ne HO_4.out BK324.out (by decide))); replace HB := Z (hb); have HO335 := Z (ho); clear HO_4; clear ho hb hg hat))
          go_roundg k2
          case measure => have := HJ2.out; have := HK2.out; omega
          case rel => exact ⟨(0), (y333), (wrap64 (x28_2 + 1)), Z3, Z3, H', ⟨by have := HJ2.out; have := HK2.out; omega⟩, ⟨(Z14 HO335)⟩, ⟨(Z22 HO_26)⟩, ⟨(Z10 BK324)⟩, ⟨Z42⟩⟩
         ·rw [if_neg c18] at H
          exact absurd H (by simp)
        ·rw [if_neg c17] at H
         exact absurd H (by simp)
       ·rw [if_neg c16] at H
        exact absurd H (by simp)
      ·rw [if_neg c15] at H
       have c15b0 : decide (x28_2 < (t329.length : Int)) = false := decide_eq_false c15
       clear c15
       obtain rfl := Option.some.inj H
       go_wp2
       go_ret
       exact ⟨_, Z13, (Z20 HO_4), Z42⟩
   ·replace c8 := Bool.eq_false_iff.mpr c8
    subst c8
    have H1 : (if (a0_0 == 7 && (a0_1.toList == ([] : List UInt8) && (a0_4 == 0))) = true then ((impl_numberCells.f a0_2 a0_3 8 2).bind fun t336 => (some t336)) else (if (a0_0 == 8 && (a0_1.toList == ([] : List UInt8) && (a0_4 == 0))) = true then ((impl_numberCells.f a0_2 a0_3 6 5).bind fun t339 => (some t339)) else (if (a0_0 == 9 && (!a0_3 && (a0_4 == 0))) = true then ((impl_Pack.f kj2 a0_1).bind fun t342 => (if (t342.length : Int) = 1 then (if 0 < (t342.length : Int) then (some (([Go.bits .or .u32 (((rd t342 0) * 16) % 4294967296) 12, (a0_2) % 4294967296] : List Int))) else (none)) else (some ([] : List Int)))) else (if (a0_0 == 0 && (a0_1.toList == ([] : List UInt8) && (a0_2 == 0 && (!a0_3)))) = true then (some (([a0_4] : List Int))) else (some ([] : List Int)))))) = some r := by rw [if_neg (show ¬ (false = true) by decide)] at H; exact H
    clear H
    have H := H1
    clear H1
    by_cases c20 : (a0_0 == 7 && (a0_1.toList == ([] : List UInt8) && (a0_4 == 0))) = true
    ·rw [if_pos c20] at H
     have c20b0 : (a0_0 == 7 && (a0_1.toList == ([] : List UInt8) && (a0_4 == 0))) = true := c20
     (try (have c20b1 : (a0_0 == 7 && (a0_1.toList.isEmpty && (a0_4 == 0))) = true := by have h_ : (a0_0 == 7 && (a0_1.toList == ([] : List UInt8) && (a0_4 == 0))) = true := c20; simpa only [List.beq_nil_eq] using h_))
     (try (have c20b2 : decide (a0_0 = 7 && (a0_1.toList == ([] : List UInt8) && (a0_4 == 0))) = true := Z23))
     (try (have c20b3 : (a0_0 == 7 && (a0_1.toList == ([] : List UInt8) && (a0_4 == 0))) = true := Z23))
     clear c20
     replace H := Option.bind_eq_some_iff.mp H
     obtain ⟨t336, A210, H⟩ := H
     replace H : (some t336) = some r := H
     have A21 := Aside0.mk A210
     clear A210
     obtain rfl := Option.some.inj H
     have hcz22_0 : wc.cell? ⟨gb324, 0, none⟩ = some (.int .i64 a0_0) := (blk_cell BK324.out 0).trans rfl
     have hcz22_1 : wc.cell? ⟨gb324, 1, none⟩ = some (.string a0_1) := (blk_cell BK324.out 1).trans rfl
     have hcz22_2 : wc.cell? ⟨gb324, 2, none⟩ = some (.int .i32 a0_2) := (blk_cell BK324.out 2).trans rfl
     have hcz22_3 : wc.cell? ⟨gb324, 3, none⟩ = some (.bool a0_3) := (blk_cell BK324.out 3).trans rfl
     have hcz22_4 : wc.cell? ⟨gb324, 4, none⟩ = some (.int .u32 a0_4) := (blk_cell BK324.out 4).trans rfl
     have hfz22_0 := blk_frozen BK324.out 0
     have hfz22_1 := blk_frozen BK324.out 1
     have hfz22_2 := blk_frozen BK324.out 2
     have hfz22_3 := blk_frozen BK324.out 3
     have hfz22_4 := blk_frozen BK324.out 4
     go_wp2_with (first | ((with_reducible refine gate_callee (f := 79) rfl ?_); refine goesL_ (some 53) rfl rfl Try.func79 Z0 rfl #[.int .i32 a0_2, .bool a0_3, .int .u32 8, .int .u32 2] rfl Z11 ?_; (with_reducible refine (impl_numberCells.calls a0_2 a0_3 8 2 t336 _ A21.out).mono ?_); rintro e w23 ⟨v337, rfl, ho0, hb⟩; refine ⟨_, rfl, ?_⟩; have HO338 := Z (Kd.R_lower ho0 (below_size Z42)); replace BK324 := Z (blk_below (g := gb324) (o := .cells #[.int .i64 a0_0, .string a0_1, .int .i32 a0_2, .bool a0_3, .int .u32 a0_4] 51 (0, 0)) (Z10 BK324) hb); replace HB := Z (below_step Z42 hb); (try clear hb); (try clear hb2); (try clear hk); (try clear hi); (try clear ho0)))
     go_ret
     exact ⟨_, Z13, (Z14 HO338), Z42⟩
    ·rw [if_neg c20] at H
     have c20b0 : (a0_0 == 7 && (a0_1.toList == ([] : List UInt8) && (a0_4 == 0))) = false := Z23
     (try (have c20b1 : (a0_0 == 7 && (a0_1.toList.isEmpty && (a0_4 == 0))) = false := by have h_ : (a0_0 == 7 && (a0_1.toList == ([] : List UInt8) && (a0_4 == 0))) = false := Z23; simpa only [List.beq_nil_eq] using h_))
     (try (have c20b2 : decide (a0_0 = 7 && (a0_1.toList == ([] : List UInt8) && (a0_4 == 0))) = false := Z23))
     (try (have c20b3 : (a0_0 == 7 && (a0_1.toList == ([] : List UInt8) && (a0_4 == 0))) = false := Z23))
     (try (have c20b4 : ¬ (a0_0 = 7 && (a0_1.toList == ([] : List UInt8) && (a0_4 == 0))) := Z23))
     clear c20
     by_cases c24 : (a0_0 == 8 && (a0_1.toList == ([] : List UInt8) && (a0_4 == 0))) = true
     ·rw [if_pos c24] at H
      have c24b0 : (a0_0 == 8 && (a0_1.toList == ([] : List UInt8) && (a0_4 == 0))) = true := c24
      (try (have c24b1 : (a0_0 == 8 && (a0_1.toList.isEmpty && (a0_4 == 0))) = true := by have h_ : (a0_0 == 8 && (a0_1.toList == ([] : List UInt8) && (a0_4 == 0))) = true := c24; simpa only [List.beq_nil_eq] using h_))
      (try (have c24b2 : decide (a0_0 = 8 && (a0_1.toList == ([] : List UInt8) && (a0_4 == 0))) = true := Z24))
      (try (have c24b3 : (a0_0 == 8 && (a0_1.toList == ([] : List UInt8) && (a0_4 == 0))) = true := Z24))
      clear c24
      replace H := Option.bind_eq_some_iff.mp H
      obtain ⟨t339, A250, H⟩ := H
      replace H : (some t339) = some r := H
      have A25 := Aside0.mk A250
      clear A250
      obtain rfl := Option.some.inj H
      have hcz26_0 : wc.cell? ⟨gb324, 0, none⟩ = some (.int .i64 a0_0) := (blk_cell BK324.out 0).trans rfl
      have hcz26_1 : wc.cell? ⟨gb324, 1, none⟩ = some (.string a0_1) := (blk_cell BK324.out 1).trans rfl
      have hcz26_2 : wc.cell? ⟨gb324, 2, none⟩ = some (.int .i32 a0_2) := (blk_cell BK324.out 2).trans rfl
      have hcz26_3 : wc.cell? ⟨gb324, 3, none⟩ = some (.bool a0_3) := (blk_cell BK324.out 3).trans rfl
      have hcz26_4 : wc.cell? ⟨gb324, 4, none⟩ = some (.int .u32 a0_4) := (blk_cell BK324.out 4).trans rfl
      have hfz26_0 := blk_frozen BK324.out 0
      have hfz26_1 := blk_frozen BK324.out 1
      have hfz26_2 := blk_frozen BK324.out 2
      have hfz26_3 := blk_frozen BK324.out 3
      have hfz26_4 := blk_frozen BK324.out 4
      go_wp2_with (first | ((with_reducible refine gate_callee (f := 79) rfl ?_); refine goesL_ (some 66) rfl rfl Try.func79 Z0 rfl #[.int .i32 a0_2, .bool a0_3, .int .u32 6, .int .u32 5] rfl Z11 ?_; (with_reducible refine (impl_numberCells.calls a0_2 a0_3 6 5 t339 _ A25.out).mono ?_); rintro e w27 ⟨v340, rfl, ho0, hb⟩; refine ⟨_, rfl, ?_⟩; have HO341 := Z (Kd.R_lower ho0 (below_size Z42)); replace BK324 := Z (blk_below (g := gb324) (o := .cells #[.int .i64 a0_0, .string a0_1, .int .i32 a0_2, .bool a0_3, .int .u32 a0_4] 51 (0, 0)) (Z10 BK324) hb); replace HB := Z (below_step Z42 hb); (try clear hb); (try clear hb2); (try clear hk); (try clear hi); (try clear ho0)))
      go_ret
      exact ⟨_, Z13, (Z14 HO341), Z42⟩
     ·rw [if_neg c24] at H
      have c24b0 : (a0_0 == 8 && (a0_1.toList == ([] : List UInt8) && (a0_4 == 0))) = false := Z24
      (try (have c24b1 : (a0_0 == 8 && (a0_1.toList.isEmpty && (a0_4 == 0))) = false := by have h_ : (a0_0 == 8 && (a0_1.toList == ([] : List UInt8) && (a0_4 == 0))) = false := Z24; simpa only [List.beq_nil_eq] using h_))
      (try (have c24b2 : decide (a0_0 = 8 && (a0_1.toList == ([] : List UInt8) && (a0_4 == 0))) = false := Z24))
      (try (have c24b3 : (a0_0 == 8 && (a0_1.toList == ([] : List UInt8) && (a0_4 == 0))) = false := Z24))
      (try (have c24b4 : ¬ (a0_0 = 8 && (a0_1.toList == ([] : List UInt8) && (a0_4 == 0))) := Z24))
      clear c24
      by_cases c28 : (a0_0 == 9 && (!a0_3 && (a0_4 == 0))) = true
      ·rw [if_pos c28] at H
       have c28b0 : (a0_0 == 9 && (!a0_3 && (a0_4 == 0))) = true := c28
       (try (have c28b1 : decide (a0_0 = 9 && (!a0_3 && (a0_4 == 0))) = true := by simpa using c28))
       (try (have c28b2 : (a0_0 == 9 && (!a0_3 && (a0_4 == 0))) = true := by simpa using c28))
       clear c28
       replace H := Option.bind_eq_some_iff.mp H
       obtain ⟨t342, A290, H⟩ := H
       replace H : (if (t342.length : Int) = 1 then (if 0 < (t342.length : Int) then (some (([Go.bits .or .u32 (((rd t342 0) * 16) % 4294967296) 12, (a0_2) % 4294967296] : List Int))) else (none)) else (some ([] : List Int))) = some r := H
       have A29 := Aside0.mk A290
       clear A290
       by_cases c30 : (t342.length : Int) = 1
       ·rw [if_pos c30] at H
        have c30b0 : ((t342.length : Int) == 1) = true := beq_iff_eq.mpr c30
        have c30b1 : ((t342.length : Int) != 1) = false := bne_eq_false_iff_eq.mpr c30
        clear c30
        by_cases c31 : 0 < (t342.length : Int)
        ·rw [if_pos c31] at H
         have c31b0 : decide (0 < (t342.length : Int)) = true := decide_eq_true c31
         have c31b1 : decide (0 < t342.length) = true := decide_eq_true (by omega)
         clear c31
         obtain ⟨y346, hy346⟩ : ∃ y_ : List Int, y_ = (([Go.bits .or .u32 (((rd t342 0) * 16) % 4294967296) 12, (a0_2) % 4294967296] : List Int)) := ⟨_, rfl⟩
         replace H : (some y346) = some r := by first | (rw [hy346]; with_reducible exact H) | (have H2_ := (Option.bind_some _ _).symm.trans H; rw [hy346]; with_reducible exact H2_) | (have H2_ := (Option.bind_some _ _).symm.trans H; with_reducible exact H2_) | with_reducible exact H | (rw [hy346]; exact H) | exact H
         have Ny346 := Aside0.mk hy346
         clear hy346
         obtain rfl := Option.some.inj H
         have hcz32_0 : wc.cell? ⟨gb324, 0, none⟩ = some (.int .i64 a0_0) := (blk_cell BK324.out 0).trans rfl
         have hcz32_1 : wc.cell? ⟨gb324, 1, none⟩ = some (.string a0_1) := (blk_cell BK324.out 1).trans rfl
         have hcz32_2 : wc.cell? ⟨gb324, 2, none⟩ = some (.int .i32 a0_2) := (blk_cell BK324.out 2).trans rfl
         have hcz32_3 : wc.cell? ⟨gb324, 3, none⟩ = some (.bool a0_3) := (blk_cell BK324.out 3).trans rfl
         have hcz32_4 : wc.cell? ⟨gb324, 4, none⟩ = some (.int .u32 a0_4) := (blk_cell BK324.out 4).trans rfl
         have hfz32_0 := blk_frozen BK324.out 0
         have hfz32_1 := blk_frozen BK324.out 1
         have hfz32_2 := blk_frozen BK324.out 2
         have hfz32_3 := blk_frozen BK324.out 3
         have hfz32_4 := blk_frozen BK324.out 4
         try go_wp2_with (first | ((with_reducible refine gate_callee (f := 78) rfl ?_); refine goesL_ (some 77) rfl rfl Try.func78 Z0 rfl #[.string a0_1] rfl Z11 ?_; (with_reducible refine (impl_Pack.calls kj2 a0_1 t342 _ A29.out).mono ?_); rintro e w33 ⟨v343, rfl, ho0, hb⟩; refine ⟨_, rfl, ?_⟩; have HO344 := Z (Kd.R_lower ho0 (below_size Z42)); replace BK324 := Z (blk_below (g := gb324) (o := .cells #[.int .i64 a0_0, .string a0_1, .int .i32 a0_2, .bool a0_3, .int .u32 a0_4] 51 (0, 0)) (Z10 BK324) hb); replace HB := Z (below_step Z42 hb); (try clear hb); (try clear hb2); (try clear hk); (try clear hi); (try clear ho0); obtain ⟨Ao34, co34, eo34⟩ := Kd.R_slice HO344.out; subst eo34))
         have n0_ := Z (Kd.R_drew HO344.out)
         have n1_ := Z (blk_drew BK324.out)
         have n2_ := Z (below_drew1 HB.out)
         clear HO344
         clear BK324
         clear HB
         have HO344 := n0_
         have BK324 := n1_
         have HB := n2_
         clear n0_ n1_ n2_
         have p345 : 0 ≤ (0 : Int) := (by omega)
         have q345 : 0 < (t342.length : Int) := of_decide_eq_true Z5
         obtain ⟨ad345, e345, hx345_0⟩ := Kd.at_int (Kd.R_reads' HO344.out).2.2 0 p345 q345
         cases e345
         have qi345 : (0 < t342.length) = True := eq_true (by omega)
         (try rw [show ((0 : Int)).toNat = 0 from rfl] at hx345_0)
         (try rw [Addr.add_zero'] at hx345_0)
         replace p345 := eq_true p345
         replace q345 := eq_true q345
         refine start_ (n := 10) (S := fun w' => w'.cell? ⟨gb324, 0, none⟩ = some (.int .i64 a0_0) ∧ w'.cell? ⟨gb324, 1, none⟩ = some (.string a0_1) ∧ w'.cell? ⟨gb324, 2, none⟩ = some (.int .i32 a0_2) ∧ w'.cell? ⟨gb324, 3, none⟩ = some (.bool a0_3) ∧ w'.cell? ⟨gb324, 4, none⟩ = some (.int .u32 a0_4) ∧ w'.cell? ad345 = some (.int .u32 (rd t342 0))) (ds := []) #[false, false, false, false, false, false, false, false, false, false] Z0 rfl rfl ⟨(blk_cell BK324.out 0).trans rfl, (blk_cell BK324.out 1).trans rfl, (blk_cell BK324.out 2).trans rfl, (blk_cell BK324.out 3).trans rfl, (blk_cell BK324.out 4).trans rfl, hx345_0⟩ (fun hHeld => ?_); refine with_tabW impl_CellsOf.tab18 impl_CellsOf.bits18 (fun HT_ HW_ => ?_)
         generalize w33.drew = w35 at HO344 BK324 HB hx345_0 hHeld ⊢
         refine pure_ (i := 0) (N := some 81) (v := ?_) (a' := ?_) #[true, false, false, false, false, false, false, false, false, false] rfl rfl (any_of HT_.out Z0) (fun _ _ _ h => h) (Or.inl ⟨by rfl, ?_⟩) ?_ ?_
         rotate_left
         ·intro w'
          go_simp
          with_reducible rfl
         rotate_left
         ·simp only [Act.put, List.setIfInBounds_toArray, List.set_cons_zero, List.set_cons_succ, i64_w, i32_w]
          rfl
         refine pure_ (i := 1) (N := some 82) (v := ?_) (a' := ?_) #[true, true, false, false, false, false, false, false, false, false] rfl rfl (any_of HT_.out Z0) (fun _ _ _ h => h) (Or.inl ⟨by rfl, ?_⟩) ?_ ?_
         rotate_left
         ·intro w'
          go_simp
          with_reducible rfl
         rotate_left
         ·simp only [Act.put, List.setIfInBounds_toArray, List.set_cons_zero, List.set_cons_succ, i64_w, i32_w]
          rfl
         refine pure_ (i := 5) (N := some 86) (v := ?_) (a' := ?_) #[true, true, false, false, false, true, false, false, false, false] rfl rfl (any_of HT_.out Z0) (fun _ _ _ h => h) (Or.inl ⟨by rfl, ?_⟩) ?_ ?_
         rotate_left
         ·intro w'
          go_simp
          with_reducible rfl
         rotate_left
         ·simp only [Act.put, List.setIfInBounds_toArray, List.set_cons_zero, List.set_cons_succ, i64_w, i32_w]
          rfl
         refine take_ (i := 2) (N := some 83) (v := ?_) (a' := ?_) #[true, true, true, false, false, true, false, false, false, false] rfl rfl (take_ofW HT_.out HW_.out Z0) (fun _ _ _ h => h) (Or.inl ⟨by rfl, ?_⟩) hHeld ?_ ?_
         rotate_left
         ·rintro w' ⟨s0, s1, s2, s3, s4, s5⟩
          go_simp
          with_reducible rfl
         rotate_left
         ·simp only [Act.put, List.setIfInBounds_toArray, List.set_cons_zero, List.set_cons_succ, i64_w, i32_w]
          rfl
         refine pure_ (i := 3) (N := some 84) (v := ?_) (a' := ?_) #[true, true, true, true, false, true, false, false, false, false] rfl rfl (any_of HT_.out Z0) (fun _ _ _ h => h) (Or.inl ⟨by rfl, ?_⟩) ?_ ?_
         rotate_left
         ·intro w'
          go_simp
          with_reducible rfl
         rotate_left
         ·simp only [Act.put, List.setIfInBounds_toArray, List.set_cons_zero, List.set_cons_succ, i64_w, i32_w]
          rfl
         refine pure_ (i := 4) (N := some 85) (v := ?_) (a' := ?_) #[true, true, true, true, true, true, false, false, false, false] rfl rfl (any_of HT_.out Z0) (fun _ _ _ h => h) (Or.inl ⟨by rfl, ?_⟩) ?_ ?_
         rotate_left
         ·intro w'
          go_simp
          with_reducible rfl
         rotate_left
         ·simp only [Act.put, List.setIfInBounds_toArray, List.set_cons_zero, List.set_cons_succ, i64_w, i32_w]
          rfl
         refine take_ (i := 6) (N := some 87) (v := ?_) (a' := ?_) #[true, true, true, true, true, true, true, false, false, false] rfl rfl (take_ofW HT_.out HW_.out Z0) (fun _ _ _ h => h) (Or.inl ⟨by rfl, ?_⟩) hHeld ?_ ?_
         rotate_left
         ·rintro w' ⟨s0, s1, s2, s3, s4, s5⟩
          go_simp
          with_reducible rfl
         rotate_left
         ·simp only [Act.put, List.setIfInBounds_toArray, List.set_cons_zero, List.set_cons_succ, i64_w, i32_w]
          rfl
         refine pure_ (i := 7) (N := some 88) (v := ?_) (a' := ?_) #[true, true, true, true, true, true, true, true, false, false] rfl rfl (any_of HT_.out Z0) (fun _ _ _ h => h) (Or.inl ⟨by rfl, ?_⟩) ?_ ?_
         rotate_left
         ·intro w'
          go_simp
          with_reducible rfl
         rotate_left
         ·simp only [Act.put, List.setIfInBounds_toArray, List.set_cons_zero, List.set_cons_succ, i64_w, i32_w]
          rfl
         refine one_ (i := 8) (N := some 89) #[true, true, true, true, true, true, true, true, true, false] rfl rfl (one_of HT_.out Z0) (by decide) (fun K hK => ?_)
         refine Kd.R_lit_step (Kd.int .u32) _ 47 ?hg (N := 89) ?hd (xs := ([Go.bits .or .u32 (((rd t342 0) * 16) % 4294967296) 12, (a0_2) % 4294967296] : List Int)) (inner := [.int .u32 (Go.bits .or .u32 (((rd t342 0) * 16) % 4294967296) 12), .int .u32 ((a0_2) % 4294967296)]) (ok := fun _ => True) (okp := fun _ => True) ?hr ?hp (fun _ hk => hk) trivial (Below.refl _ _) (Nat.le_refl _) (by simp) ?_; (case hd => rfl); (case hg => rfl); (case hr => exact Z8); (case hp => exact (Reps.one (show Kd.M (Kd.int .u32) _ _ _ (Go.bits .or .u32 (((rd t342 0) * 16) % 4294967296) 12) [.int .u32 (Go.bits .or .u32 (((rd t342 0) * 16) % 4294967296) 12)] from rfl) (Reps.one (show Kd.M (Kd.int .u32) _ _ _ ((a0_2) % 4294967296) [.int .u32 ((a0_2) % 4294967296)] from rfl) (Reps.none _ _))))
         intro v347 w36 ho37 hb hg_ hnew_
         have HS5_ := (hb.cell (World.block_lt_of_cell? _ _ (hHeld.2.2.2.2.2))).trans (hHeld.2.2.2.2.2)
         clear hg_ hnew_
         (first | rw [← Ny346.out] at ho37 | (simp only [Int.reduceToNat] at ho37; rw [← Ny346.out] at ho37))
         have n0_ := Z (Kd.R_elder' (Z14 HO344) (Kd.R_base ho37) hb)
         have n1_ := Z (Kd.R_lower (Kd.R_new' ho37 (Kd.R_lt (Z14 HO344))) (below_size Z42))
         have n2_ := Z (blk_below (g := gb324) (o := .cells #[.int .i64 a0_0, .string a0_1, .int .i32 a0_2, .bool a0_3, .int .u32 a0_4] 51 (0, 0)) (Z10 BK324) hb)
         have n3_ := Z (below_step Z42 hb)
         clear HO344
         clear BK324
         clear HB
         have HO344 := n0_
         have HO348 := n1_
         have BK324 := n2_
         have HB := n3_
         clear n0_ n1_ n2_ n3_
         clear hb ho37
         refine hK.out _ _ ⟨(blk_cell BK324.out 0).trans rfl, (blk_cell BK324.out 1).trans rfl, (blk_cell BK324.out 2).trans rfl, (blk_cell BK324.out 3).trans rfl, (blk_cell BK324.out 4).trans rfl, HS5_⟩ (fun hHeld => ?_)
         clear hK K
         refine norm_ (a' := ?_) ?_ ?_
         rotate_left
         ·show Act.put _ (some 89) _ = _
          simp only [Act.put, List.setIfInBounds_toArray, List.set_cons_zero, List.set_cons_succ, i64_w, i32_w]
          rfl
         refine pure_ (i := 9) (N := some 2) (v := ?_) (a' := ?_) #[true, true, true, true, true, true, true, true, true, true] rfl rfl (any_of HT_.out Z0) (fun _ _ _ h => h) (Or.inl ⟨by rfl, ?_⟩) ?_ ?_
         rotate_left
         ·intro w'
          go_simp
          with_reducible rfl
         rotate_left
         ·simp only [Act.put, List.setIfInBounds_toArray, List.set_cons_zero, List.set_cons_succ, i64_w, i32_w]
          rfl
         refine done_ (done_of HT_.out Z0) ?_
         try go_wp2
         go_ret
         exact ⟨_, Z13, (Z20 HO348), Z42⟩
        ·rw [if_neg c31] at H
         exact absurd H (by simp)
       ·rw [if_neg c30] at H
        have c30b0 : ((t342.length : Int) == 1) = false := beq_eq_false_iff_ne.mpr c30
        have c30b1 : ((t342.length : Int) != 1) = true := bne_iff_ne.mpr c30
        obtain rfl := Option.some.inj H
        have hcz38_0 : wc.cell? ⟨gb324, 0, none⟩ = some (.int .i64 a0_0) := (blk_cell BK324.out 0).trans rfl
        have hcz38_1 : wc.cell? ⟨gb324, 1, none⟩ = some (.string a0_1) := (blk_cell BK324.out 1).trans rfl
        have hcz38_2 : wc.cell? ⟨gb324, 2, none⟩ = some (.int .i32 a0_2) := (blk_cell BK324.out 2).trans rfl
        have hcz38_3 : wc.cell? ⟨gb324, 3, none⟩ = some (.bool a0_3) := (blk_cell BK324.out 3).trans rfl
        have hcz38_4 : wc.cell? ⟨gb324, 4, none⟩ = some (.int .u32 a0_4) := (blk_cell BK324.out 4).trans rfl
        have hfz38_0 := blk_frozen BK324.out 0
        have hfz38_1 := blk_frozen BK324.out 1
        have hfz38_2 := blk_frozen BK324.out 2
        have hfz38_3 := blk_frozen BK324.out 3
        have hfz38_4 := blk_frozen BK324.out 4
        go_wp2_with (first | ((with_reducible refine gate_callee (f := 78) rfl ?_); refine goesL_ (some 77) rfl rfl Try.func78 Z0 rfl #[.string a0_1] rfl Z11 ?_; (with_reducible refine (impl_Pack.calls kj2 a0_1 t342 _ A29.out).mono ?_); rintro e w39 ⟨v343, rfl, ho0, hb⟩; refine ⟨_, rfl, ?_⟩; have HO344 := Z (Kd.R_lower ho0 (below_size Z42)); replace BK324 := Z (blk_below (g := gb324) (o := .cells #[.int .i64 a0_0, .string a0_1, .int .i32 a0_2, .bool a0_3, .int .u32 a0_4] 51 (0, 0)) (Z10 BK324) hb); replace HB := Z (below_step Z42 hb); (try clear hb); (try clear hb2); (try clear hk); (try clear hi); (try clear ho0); obtain ⟨Ao40, co40, eo40⟩ := Kd.R_slice HO344.out; subst eo40))
        go_ret
        exact ⟨_, Z13, Z19, Z42⟩
      ·rw [if_neg c28] at H
       have c28b0 : (a0_0 == 9 && (!a0_3 && (a0_4 == 0))) = false := by simpa using c28
       (try (have c28b1 : decide (a0_0 = 9 && (!a0_3 && (a0_4 == 0))) = false := by simpa using c28))
       (try (have c28b2 : (a0_0 == 9 && (!a0_3 && (a0_4 == 0))) = false := by simpa using c28))
       (try (have c28b3 : ¬ (a0_0 = 9 && (!a0_3 && (a0_4 == 0))) := by simpa using c28))
       clear c28
       by_cases c41 : (a0_0 == 0 && (a0_1.toList == ([] : List UInt8) && (a0_2 == 0 && (!a0_3)))) = true
       ·rw [if_pos c41] at H
        have c41b0 : (a0_0 == 0 && (a0_1.toList == ([] : List UInt8) && (a0_2 == 0 && (!a0_3)))) = true := c41
        (try (have c41b1 : (a0_0 == 0 && (a0_1.toList.isEmpty && (a0_2 == 0 && (!a0_3)))) = true := by have h_ : (a0_0 == 0 && (a0_1.toList == ([] : List UInt8) && (a0_2 == 0 && (!a0_3)))) = true := c41; simpa only [List.beq_nil_eq] using h_))
        (try (have c41b2 : decide (a0_0 = 0 && (a0_1.toList == ([] : List UInt8) && (a0_2 == 0 && (!a0_3)))) = true := Z25))
        (try (have c41b3 : (a0_0 == 0 && (a0_1.toList == ([] : List UInt8) && (a0_2 == 0 && (!a0_3)))) = true := Z25))
        clear c41
        obtain ⟨y349, hy349⟩ : ∃ y_ : List Int, y_ = (([a0_4] : List Int)) := ⟨_, rfl⟩
        replace H : (some y349) = some r := by first | (rw [hy349]; with_reducible exact H) | (have H2_ := (Option.bind_some _ _).symm.trans H; rw [hy349]; with_reducible exact H2_) | (have H2_ := (Option.bind_some _ _).symm.trans H; with_reducible exact H2_) | with_reducible exact H | (rw [hy349]; exact H) | exact H
        have Ny349 := Aside0.mk hy349
        clear hy349
        obtain rfl := Option.some.inj H
        have hcz42_0 : wc.cell? ⟨gb324, 0, none⟩ = some (.int .i64 a0_0) := (blk_cell BK324.out 0).trans rfl
        have hcz42_1 : wc.cell? ⟨gb324, 1, none⟩ = some (.string a0_1) := (blk_cell BK324.out 1).trans rfl
        have hcz42_2 : wc.cell? ⟨gb324, 2, none⟩ = some (.int .i32 a0_2) := (blk_cell BK324.out 2).trans rfl
        have hcz42_3 : wc.cell? ⟨gb324, 3, none⟩ = some (.bool a0_3) := (blk_cell BK324.out 3).trans rfl
        have hcz42_4 : wc.cell? ⟨gb324, 4, none⟩ = some (.int .u32 a0_4) := (blk_cell BK324.out 4).trans rfl
        have hfz42_0 := blk_frozen BK324.out 0
        have hfz42_1 := blk_frozen BK324.out 1
        have hfz42_2 := blk_frozen BK324.out 2
        have hfz42_3 := blk_frozen BK324.out 3
        have hfz42_4 := blk_frozen BK324.out 4
        go_wp2_with (first | ((with_reducible refine gate_dst (N := 98) rfl ?_); refine Kd.R_lit (Kd.int .u32) _ 47 (by rfl) (N := 98) (by rfl) (xs := ([a0_4] : List Int)) (inner := [.int .u32 a0_4]) (ok := fun _ => True) (okp := fun _ => True) Z8 (Reps.one (show Kd.M (Kd.int .u32) _ _ _ a0_4 [.int .u32 a0_4] from rfl) (Reps.none _ _)) (fun _ hk => hk) trivial (Below.refl _ _) (Nat.le_refl _) (by simp) ?_; intro v350 w43 ho44 hb hg_ hnew_; clear hg_ hnew_; (first | rw [← Ny349.out] at ho44 | (simp only [Int.reduceToNat] at ho44; rw [← Ny349.out] at ho44)); have HO351 := Z (Kd.R_lower ho44 (below_size Z42)); replace BK324 := Z (blk_below (g := gb324) (o := .cells #[.int .i64 a0_0, .string a0_1, .int .i32 a0_2, .bool a0_3, .int .u32 a0_4] 51 (0, 0)) (Z10 BK324) hb); replace HB := Z (below_step Z42 hb); clear hb ho44))
        go_ret
        exact ⟨_, Z13, (Z14 HO351), Z42⟩
       ·rw [if_neg c41] at H
        have c41b0 : (a0_0 == 0 && (a0_1.toList == ([] : List UInt8) && (a0_2 == 0 && (!a0_3)))) = false := Z25
        (try (have c41b1 : (a0_0 == 0 && (a0_1.toList.isEmpty && (a0_2 == 0 && (!a0_3)))) = false := by have h_ : (a0_0 == 0 && (a0_1.toList == ([] : List UInt8) && (a0_2 == 0 && (!a0_3)))) = false := Z25; simpa only [List.beq_nil_eq] using h_))
        (try (have c41b2 : decide (a0_0 = 0 && (a0_1.toList == ([] : List UInt8) && (a0_2 == 0 && (!a0_3)))) = false := Z25))
        (try (have c41b3 : (a0_0 == 0 && (a0_1.toList == ([] : List UInt8) && (a0_2 == 0 && (!a0_3)))) = false := Z25))
        (try (have c41b4 : ¬ (a0_0 = 0 && (a0_1.toList == ([] : List UInt8) && (a0_2 == 0 && (!a0_3)))) := Z25))
        clear c41
        obtain rfl := Option.some.inj H
        have hcz45_0 : wc.cell? ⟨gb324, 0, none⟩ = some (.int .i64 a0_0) := (blk_cell BK324.out 0).trans rfl
        have hcz45_1 : wc.cell? ⟨gb324, 1, none⟩ = some (.string a0_1) := (blk_cell BK324.out 1).trans rfl
        have hcz45_2 : wc.cell? ⟨gb324, 2, none⟩ = some (.int .i32 a0_2) := (blk_cell BK324.out 2).trans rfl
        have hcz45_3 : wc.cell? ⟨gb324, 3, none⟩ = some (.bool a0_3) := (blk_cell BK324.out 3).trans rfl
        have hcz45_4 : wc.cell? ⟨gb324, 4, none⟩ = some (.int .u32 a0_4) := (blk_cell BK324.out 4).trans rfl
        have hfz45_0 := blk_frozen BK324.out 0
        have hfz45_1 := blk_frozen BK324.out 1
        have hfz45_2 := blk_frozen BK324.out 2
        have hfz45_3 := blk_frozen BK324.out 3
        have hfz45_4 := blk_frozen BK324.out 4
        go_wp2
        go_ret
        exact ⟨_, Z13, Z19, Z42⟩

/-! ### impl_Unparse: function 16 -/
def impl_Unparse.l0 : Nat → List Int → List (S51) → Int → Int → Option (List Int × Bool)
 | 0, _, _, _, _ => none
 | k + 1, x4, x9, x10, x11 => if x11 < x10 then (if 0 ≤ x11 then (if x11 < (x9.length : Int) then ((impl_CellsOf.f k ((rd_T51 x9 x11).f0) ((rd_T51 x9 x11).f1) ((rd_T51 x9 x11).f2) ((rd_T51 x9 x11).f3) ((rd_T51 x9 x11).f4)).bind fun t357 => (if x4.length + t357.length < 35184372088832 then ((some (x4 ++ t357 : List Int)).bind fun y360 => (if (t357.length : Int) = 0 then (some (([] : List Int), false)) else (if (y360.length : Int) > 64 then (some (([] : List Int), false)) else (impl_Unparse.l0 k y360 x9 x10 (wrap64 (x11 + 1)))))) else (none))) else (none)) else (none)) else (some (x4, true))
def impl_Unparse.f (k : Nat) (l0 : List (S51)) : Option (List Int × Bool) := impl_Unparse.l0 k (([] : List Int)) l0 (l0.length : Int) 0
theorem impl_Unparse.mono_l : ∀ k, (∀ y0 y1 y2 y3, LeO (impl_Unparse.l0 k y0 y1 y2 y3) (impl_Unparse.l0 (k + 1) y0 y1 y2 y3))
 | 0 => fun _ _ _ _ r h => by simp [impl_Unparse.l0] at h
 | k + 1 => by
  have ih0 := impl_Unparse.mono_l k
  ·intro y0 y1 y2 y3
   unfold impl_Unparse.l0
   repeat' first
   | (with_reducible exact ih0 _ _ _ _)
   | (with_reducible exact impl_CellsOf.mono _ _ _ _ _ _)
   | (with_reducible exact LeO.refl _)
   | (with_reducible exact LeO.none _)
   | (with_reducible refine LeO.ite ?_ ?_)
   | (with_reducible refine LeO.bind ?_ (fun _ => ?_))
   | exact ih0 _ _ _ _
   | exact impl_CellsOf.mono _ _ _ _ _ _
   | exact LeO.none _
   | refine LeO.ite ?_ ?_
   | refine LeO.bind ?_ (fun _ => ?_)
theorem impl_Unparse.mono : ∀ a0 k, LeO (impl_Unparse.f k a0) (impl_Unparse.f (k + 1) a0) := by
 intro a0 k
 have ih0 := impl_Unparse.mono_l k
 unfold impl_Unparse.f
 repeat' first
   | (with_reducible exact ih0 _ _ _ _)
   | (with_reducible exact impl_CellsOf.mono _ _ _ _ _ _)
   | (with_reducible exact LeO.refl _)
   | (with_reducible exact LeO.none _)
   | (with_reducible refine LeO.ite ?_ ?_)
   | (with_reducible refine LeO.bind ?_ (fun _ => ?_))
   | exact ih0 _ _ _ _
   | exact impl_CellsOf.mono _ _ _ _ _ _
   | exact LeO.none _
   | refine LeO.ite ?_ ?_
   | refine LeO.bind ?_ (fun _ => ?_)
set_option maxHeartbeats 8000000 in
set_option maxRecDepth 100000 in
theorem impl_Unparse.calls (k : Nat) (A0 : Option Addr) (c0 : Nat) (l0 : List (S51)) (r1 : List Int) (r2 : Bool) (w : World) (hr0 : Kd.C k51 w A0 l0.length l0) (hc0 : l0.length ≤ c0) (h : impl_Unparse.f k l0 = some (r1, r2)) :
  Calls Try.prog 16 #[.slice A0 l0.length c0] w fun e w' => ∃ v0_ : Value, e = .returned (.tuple #[v0_, .bool r2]) ∧ Kd.R (Kd.int .u32) 47 w' w.heap.size (fun _ => True) v0_ r1 ∧ Below w.heap.size w w' := by
 have hu51 := Try.underlying51
 have HR0 := Aside0.mk hr0
 have HC0 := Aside0.mk hc0
 clear hr0 hc0
 have HB := Z (Below.refl w.heap.size w)
 have H : (impl_Unparse.l0 k (([] : List Int)) l0 (l0.length : Int) 0) = some (r1, r2) := h
 clear h
 obtain ⟨y352, hy352⟩ : ∃ y_ : List Int, y_ = (([] : List Int)) := ⟨_, rfl⟩
 replace H : (impl_Unparse.l0 k y352 l0 (l0.length : Int) 0) = some (r1, r2) := by first | (rw [hy352]; with_reducible exact H) | (have H2_ := (Option.bind_some _ _).symm.trans H; rw [hy352]; with_reducible exact H2_) | (have H2_ := (Option.bind_some _ _).symm.trans H; with_reducible exact H2_) | with_reducible exact H | (rw [hy352]; exact H) | exact H
 have Ny352 := Aside0.mk hy352
 clear hy352
 have H' := Aside0.mk H
 clear H
 go_enter Try.func16, Try.ntmps16
 go_wp2_with (first | ((with_reducible refine gate_dst (N := 8) rfl ?_); (try (refine gate_guard (by rfl) ?_; dsimp only)); refine Kd.R_lit (Kd.int .u32) _ 47 (by rfl) (N := 8) (by rfl) (xs := ([] : List Int)) (inner := []) (ok := fun _ => True) (okp := fun _ => True) Z8 (Reps.none _ _) (fun _ hk => hk) trivial (Below.refl _ _) (Nat.le_refl _) (by simp) ?_; intro v353 w2 ho3 hb hg_ hnew_; clear hg_ hnew_; (first | rw [← Ny352.out] at ho3 | (simp only [Int.reduceToNat] at ho3; rw [← Ny352.out] at ho3)); have HO354 := Z (Kd.R_lower ho3 (below_size Z42)); replace HB := Z (below_step Z42 hb); clear hb ho3))
 go_loopg [4, 11] k (fun kq v4 v11 w' => ∃ (x4_1 : List Int) (x11_1 : Int), v11 = .int .i64 x11_1 ∧ Aside0 (impl_Unparse.l0 kq x4_1 l0 (l0.length : Int) x11_1 = some (r1, r2)) ∧ Aside0 (kq ≤ k) ∧ Aside0 (Kd.R (Kd.int .u32) 47 w' w.heap.size (fun _ => True) v4 x4_1) ∧ Aside0 (Below w.heap.size w w'))
 case atStart => exact ⟨(y352), (0), Z3, H', ⟨Nat.le_refl _⟩, ⟨(Z14 HO354)⟩, ⟨Z42⟩⟩
 case round =>
  clear H'
  try clear c1
  try clear p2
  obtain ⟨x4_1, x11_1, rfl, HA, HK1, HO_4, HB⟩ := hrel
  cases gk with
  | zero => exact absurd HA.out (by simp [impl_Unparse.l0])
  | succ k1 =>
   have H := HA.out
   clear HA
   simp only [impl_Unparse.l0] at H
   by_cases c4 : x11_1 < (l0.length : Int)
   ·rw [if_pos c4] at H
    have c4b0 : decide (x11_1 < (l0.length : Int)) = true := decide_eq_true c4
    clear c4
    by_cases c5 : 0 ≤ x11_1
    ·rw [if_pos c5] at H
     have c5b0 : decide (0 ≤ x11_1) = true := decide_eq_true c5
     clear c5
     by_cases c6 : x11_1 < (l0.length : Int)
     ·rw [if_pos c6] at H
      have c6b0 : decide (x11_1 < (l0.length : Int)) = true := decide_eq_true c6
      clear c6
      replace H := Option.bind_eq_some_iff.mp H
      obtain ⟨t357, A70, H⟩ := H
      replace H : (if x4_1.length + t357.length < 35184372088832 then ((some (x4_1 ++ t357 : List Int)).bind fun y360 => (if (t357.length : Int) = 0 then (some (([] : List Int), false)) else (if (y360.length : Int) > 64 then (some (([] : List Int), false)) else (impl_Unparse.l0 k1 y360 l0 (l0.length : Int) (wrap64 (x11_1 + 1)))))) else (none)) = some (r1, r2) := H
      have A7 := Aside0.mk A70
      clear A70
      by_cases c8 : x4_1.length + t357.length < 35184372088832
      ·rw [if_pos c8] at H
       have LMc8 := Aside0.mk c8
       clear c8
       obtain ⟨y360, hy360⟩ : ∃ y_ : List Int, y_ = (x4_1 ++ t357) := ⟨_, rfl⟩
       replace H : (if (t357.length : Int) = 0 then (some (([] : List Int), false)) else (if (y360.length : Int) > 64 then (some (([] : List Int), false)) else (impl_Unparse.l0 k1 y360 l0 (l0.length : Int) (wrap64 (x11_1 + 1))))) = some (r1, r2) := by first | (rw [hy360]; with_reducible exact H) | (have H2_ := (Option.bind_some _ _).symm.trans H; rw [hy360]; with_reducible exact H2_) | (have H2_ := (Option.bind_some _ _).symm.trans H; with_reducible exact H2_) | with_reducible exact H | (rw [hy360]; exact H) | exact H
       have Ny360 := Aside0.mk hy360
       clear hy360
       by_cases c9 : (t357.length : Int) = 0
       ·rw [if_pos c9] at H
        have c9b0 : ((t357.length : Int) == 0) = true := beq_iff_eq.mpr c9
        have c9b1 : ((t357.length : Int) != 0) = false := bne_eq_false_iff_eq.mpr c9
        clear c9
        simp only [Option.some.injEq, Prod.mk.injEq] at H
        obtain ⟨rfl, rfl⟩ := H
        have p355 : 0 ≤ (x11_1 : Int) := of_decide_eq_true Z5
        have q355 : x11_1 < (l0.length : Int) := of_decide_eq_true Z5
        obtain ⟨ad355, e355, hx355_0, hx355_1, hx355_2, hx355_3, hx355_4⟩ := at_T51 HR0.out x11_1 p355 q355
        cases e355
        replace hx355_0 := (HB.out.cell (World.block_lt_of_cell? w _ hx355_0)).trans hx355_0
        replace hx355_1 := (HB.out.cell (World.block_lt_of_cell? w _ hx355_1)).trans hx355_1
        replace hx355_2 := (HB.out.cell (World.block_lt_of_cell? w _ hx355_2)).trans hx355_2
        replace hx355_3 := (HB.out.cell (World.block_lt_of_cell? w _ hx355_3)).trans hx355_3
        replace hx355_4 := (HB.out.cell (World.block_lt_of_cell? w _ hx355_4)).trans hx355_4
        replace p355 := eq_true p355
        replace q355 := eq_true q355
        go_wp2_with (first | ((with_reducible refine gate_dst (N := 6) rfl ?_); (try (refine gate_guard (by rfl) ?_; dsimp only)); refine box_event (by rfl) (N := 6) (by rfl) (cs := #[.int .i64 0, .string (⟨#[]⟩ : ByteArray), .int .i32 0, .bool false, .int .u32 0]) (t := 51) Z8 ?_; intro gb356 hg w10 hbox hb; replace HO_4 := Z (Kd.R_below (Z14 HO_4) hb); have BK356 := Z (hbox); have GW356 := Z ((Z63 : w.heap.size ≤ gb356)); have GE356 := Z ((Z63 : w.heap.size ≤ gb356)); replace HB := Z (below_step Z42 hb); clear hb hbox hg; have hcz11_0 : w10.cell? ⟨gb356, 0, none⟩ = some (.int .i64 0) := (blk_cell BK356.out 0).trans rfl; have hcz11_1 : w10.cell? ⟨gb356, 1, none⟩ = some (.string (⟨#[]⟩ : ByteArray)) := (blk_cell BK356.out 1).trans rfl; have hcz11_2 : w10.cell? ⟨gb356, 2, none⟩ = some (.int .i32 0) := (blk_cell BK356.out 2).trans rfl; have hcz11_3 : w10.cell? ⟨gb356, 3, none⟩ = some (.bool false) := (blk_cell BK356.out 3).trans rfl; have hcz11_4 : w10.cell? ⟨gb356, 4, none⟩ = some (.int .u32 0) := (blk_cell BK356.out 4).trans rfl; have hfz11_0 := blk_frozen BK356.out 0; have hfz11_1 := blk_frozen BK356.out 1; have hfz11_2 := blk_frozen BK356.out 2; have hfz11_3 := blk_frozen BK356.out 3; have hfz11_4 := blk_frozen BK356.out 4) | ((with_reducible refine gate_callee (f := 43) rfl ?_); refine goesL_ (some 16) rfl rfl Try.func43 Z0 rfl #[.agg #[.int .i64 ((rd_T51 l0 x11_1).f0), .string ((rd_T51 l0 x11_1).f1), .int .i32 ((rd_T51 l0 x11_1).f2), .bool ((rd_T51 l0 x11_1).f3), .int .u32 ((rd_T51 l0 x11_1).f4)]] rfl Z11 ?_; (with_reducible refine (impl_CellsOf.calls k1 ((rd_T51 l0 x11_1).f0) ((rd_T51 l0 x11_1).f1) ((rd_T51 l0 x11_1).f2) ((rd_T51 l0 x11_1).f3) ((rd_T51 l0 x11_1).f4) t357 _ A7.out).mono ?_); rintro e w12 ⟨v358, rfl, ho0, hb⟩; refine ⟨_, rfl, ?_⟩; have HO359 := Z (Kd.R_lower (Kd.R_new' ho0 (Kd.R_lt (by (with_reducible repeat (first | apply Kd.R_alloc | apply Kd.R_drewN | apply Kd.R_drew)); exact (Kd.R_mono (Kd.R_far (p := ⟨gb356, 4, none⟩) (Kd.R_far (p := ⟨gb356, 3, none⟩) (Kd.R_far (p := ⟨gb356, 2, none⟩) (Kd.R_far (p := ⟨gb356, 1, none⟩) (Kd.R_far (p := ⟨gb356, 0, none⟩) (Kd.R_types HO_4.out BK356.out (by decide)) (fun _ hk => hk.2) (.int .i64 ((rd_T51 l0 x11_1).f0))) (fun _ hk => hk.2) (.string ((rd_T51 l0 x11_1).f1))) (fun _ hk => hk.2) (.int .i32 ((rd_T51 l0 x11_1).f2))) (fun _ hk => hk.2) (.bool ((rd_T51 l0 x11_1).f3))) (fun _ hk => hk.2) (.int .u32 ((rd_T51 l0 x11_1).f4))) (fun _ h_ => h_.1))))) (below_size Z42)); replace HO_4 := Z (Kd.R_elder' (by (with_reducible repeat (first | apply Kd.R_alloc | apply Kd.R_drewN | apply Kd.R_drew)); exact (Kd.R_mono (Kd.R_far (p := ⟨gb356, 4, none⟩) (Kd.R_far (p := ⟨gb356, 3, none⟩) (Kd.R_far (p := ⟨gb356, 2, none⟩) (Kd.R_far (p := ⟨gb356, 1, none⟩) (Kd.R_far (p := ⟨gb356, 0, none⟩) (Kd.R_types HO_4.out BK356.out (by decide)) (fun _ hk => hk.2) (.int .i64 ((rd_T51 l0 x11_1).f0))) (fun _ hk => hk.2) (.string ((rd_T51 l0 x11_1).f1))) (fun _ hk => hk.2) (.int .i32 ((rd_T51 l0 x11_1).f2))) (fun _ hk => hk.2) (.bool ((rd_T51 l0 x11_1).f3))) (fun _ hk => hk.2) (.int .u32 ((rd_T51 l0 x11_1).f4))) (fun _ h_ => h_.1))) (Kd.R_base ho0) hb); replace BK356 := Z (blk_below (g := gb356) (o := .cells #[.int .i64 ((rd_T51 l0 x11_1).f0), .string ((rd_T51 l0 x11_1).f1), .int .i32 ((rd_T51 l0 x11_1).f2), .bool ((rd_T51 l0 x11_1).f3), .int .u32 ((rd_T51 l0 x11_1).f4)] 51 (0, 0)) (Z26 BK356) hb); replace HB := Z (below_step Z42 hb); (try clear hb); (try clear hb2); (try clear hk); (try clear hi); (try clear ho0); obtain ⟨Ao14, co14, eo14⟩ := Kd.R_slice HO359.out; subst eo14) | ((with_reducible refine gate_builtin (b := .append) (xs := #[.tmp 17, .tmp 18]) rfl ?_); (try (refine gate_guard (by rfl) ?_; dsimp only)); at_builtin; refine Kd.R_append_rows (Kd.int .u32) (w0 := w) w.heap.size rfl (.tmp 17) (.tmp 18) 24 47 (.int .u32 0) 4 rfl Try.underlying24 info47 rfl (by decide) (by omega) u4 x4_1 t357 _ _ _ (fun k_ => some k_ ≠ (.slice Ao14 t357.length co14 : Value).ownBlock) (fun _ => False) rfl rfl ?aO ?aR (fun _ _ h => h) (fun _ h => h.elim) ?aF ?aB ?aS ?aL ?_; (case aR => exact (Z21 HO359)); (case aB => exact Z42); (case aF => exact (fun k_ hk => Kd.fresh' (Kd.R_lt (Z14 HO359)) k_ hk)); (case aO => exact (Z22 HO_4)); (case aS => exact (below_size Z42)); (case aL => have := LMc8.out; omega); intro v361 w13 ho hb hg hat; rw [← Ny360.out] at ho; replace BK356 := Z (blk_grown (g := gb356) (o := .cells #[.int .i64 ((rd_T51 l0 x11_1).f0), .string ((rd_T51 l0 x11_1).f1), .int .i32 ((rd_T51 l0 x11_1).f2), .bool ((rd_T51 l0 x11_1).f3), .int .u32 ((rd_T51 l0 x11_1).f4)] 51 (0, 0)) (Z10 BK356) hg (Kd.R_ne HO_4.out BK356.out (by decide))); replace HO359 := Z (Kd.R_after (ok := (fun _ => True)) (Z14 HO359) hg hat); replace HB := Z (hb); have HO362 := Z (ho); clear HO_4; clear ho hb hg hat))
        go_ret2
        exact ⟨_, Z13, Z19, Z42⟩
       ·rw [if_neg c9] at H
        have c9b0 : ((t357.length : Int) == 0) = false := beq_eq_false_iff_ne.mpr c9
        have c9b1 : ((t357.length : Int) != 0) = true := bne_iff_ne.mpr c9
        have c9b2 : ¬ (t357 = []) := fun h_ => c9 (by rw [h_]; rfl)
        by_cases c15 : (y360.length : Int) > 64
        ·rw [if_pos c15] at H
         have c15b0 : decide (64 < (y360.length : Int)) = true := decide_eq_true c15
         have c15b1 : decide (64 < y360.length) = true := decide_eq_true (by omega)
         clear c15
         simp only [Option.some.injEq, Prod.mk.injEq] at H
         obtain ⟨rfl, rfl⟩ := H
         have p355 : 0 ≤ (x11_1 : Int) := of_decide_eq_true Z5
         have q355 : x11_1 < (l0.length : Int) := of_decide_eq_true Z5
         obtain ⟨ad355, e355, hx355_0, hx355_1, hx355_2, hx355_3, hx355_4⟩ := at_T51 HR0.out x11_1 p355 q355
         cases e355
         replace hx355_0 := (HB.out.cell (World.block_lt_of_cell? w _ hx355_0)).trans hx355_0
         replace hx355_1 := (HB.out.cell (World.block_lt_of_cell? w _ hx355_1)).trans hx355_1
         replace hx355_2 := (HB.out.cell (World.block_lt_of_cell? w _ hx355_2)).trans hx355_2
         replace hx355_3 := (HB.out.cell (World.block_lt_of_cell? w _ hx355_3)).trans hx355_3
         replace hx355_4 := (HB.out.cell (World.block_lt_of_cell? w _ hx355_4)).trans hx355_4
         replace p355 := eq_true p355
         replace q355 := eq_true q355
         go_wp2_with (first | ((with_reducible refine gate_dst (N := 6) rfl ?_); (try (refine gate_guard (by rfl) ?_; dsimp only)); refine box_event (by rfl) (N := 6) (by rfl) (cs := #[.int .i64 0, .string (⟨#[]⟩ : ByteArray), .int .i32 0, .bool false, .int .u32 0]) (t := 51) Z8 ?_; intro gb356 hg w16 hbox hb; replace HO_4 := Z (Kd.R_below (Z14 HO_4) hb); have BK356 := Z (hbox); have GW356 := Z ((Z63 : w.heap.size ≤ gb356)); have GE356 := Z ((Z63 : w.heap.size ≤ gb356)); replace HB := Z (below_step Z42 hb); clear hb hbox hg; have hcz17_0 : w16.cell? ⟨gb356, 0, none⟩ = some (.int .i64 0) := (blk_cell BK356.out 0).trans rfl; have hcz17_1 : w16.cell? ⟨gb356, 1, none⟩ = some (.string (⟨#[]⟩ : ByteArray)) := (blk_cell BK356.out 1).trans rfl; have hcz17_2 : w16.cell? ⟨gb356, 2, none⟩ = some (.int .i32 0) := (blk_cell BK356.out 2).trans rfl; have hcz17_3 : w16.cell? ⟨gb356, 3, none⟩ = some (.bool false) := (blk_cell BK356.out 3).trans rfl; have hcz17_4 : w16.cell? ⟨gb356, 4, none⟩ = some (.int .u32 0) := (blk_cell BK356.out 4).trans rfl; have hfz17_0 := blk_frozen BK356.out 0; have hfz17_1 := blk_frozen BK356.out 1; have hfz17_2 := blk_frozen BK356.out 2; have hfz17_3 := blk_frozen BK356.out 3; have hfz17_4 := blk_frozen BK356.out 4) | ((with_reducible refine gate_callee (f := 43) rfl ?_); refine goesL_ (some 16) rfl rfl Try.func43 Z0 rfl #[.agg #[.int .i64 ((rd_T51 l0 x11_1).f0), .string ((rd_T51 l0 x11_1).f1), .int .i32 ((rd_T51 l0 x11_1).f2), .bool ((rd_T51 l0 x11_1).f3), .int .u32 ((rd_T51 l0 x11_1).f4)]] rfl Z11 ?_; (with_reducible refine (impl_CellsOf.calls k1 ((rd_T51 l0 x11_1).f0) ((rd_T51 l0 x11_1).f1) ((rd_T51 l0 x11_1).f2) ((rd_T51 l0 x11_1).f3) ((rd_T51 l0 x11_1).f4) t357 _ A7.out).mono ?_); rintro e w18 ⟨v358, rfl, ho0, hb⟩; refine ⟨_, rfl, ?_⟩; have HO359 := Z (Kd.R_lower (Kd.R_new' ho0 (Kd.R_lt (by (with_reducible repeat (first | apply Kd.R_alloc | apply Kd.R_drewN | apply Kd.R_drew)); exact (Kd.R_mono (Kd.R_far (p := ⟨gb356, 4, none⟩) (Kd.R_far (p := ⟨gb356, 3, none⟩) (Kd.R_far (p := ⟨gb356, 2, none⟩) (Kd.R_far (p := ⟨gb356, 1, none⟩) (Kd.R_far (p := ⟨gb356, 0, none⟩) (Kd.R_types HO_4.out BK356.out (by decide)) (fun _ hk => hk.2) (.int .i64 ((rd_T51 l0 x11_1).f0))) (fun _ hk => hk.2) (.string ((rd_T51 l0 x11_1).f1))) (fun _ hk => hk.2) (.int .i32 ((rd_T51 l0 x11_1).f2))) (fun _ hk => hk.2) (.bool ((rd_T51 l0 x11_1).f3))) (fun _ hk => hk.2) (.int .u32 ((rd_T51 l0 x11_1).f4))) (fun _ h_ => h_.1))))) (below_size Z42)); replace HO_4 := Z (Kd.R_elder' (by (with_reducible repeat (first | apply Kd.R_alloc | apply Kd.R_drewN | apply Kd.R_drew)); exact (Kd.R_mono (Kd.R_far (p := ⟨gb356, 4, none⟩) (Kd.R_far (p := ⟨gb356, 3, none⟩) (Kd.R_far (p := ⟨gb356, 2, none⟩) (Kd.R_far (p := ⟨gb356, 1, none⟩) (Kd.R_far (p := ⟨gb356, 0, none⟩) (Kd.R_types HO_4.out BK356.out (by decide)) (fun _ hk => hk.2) (.int .i64 ((rd_T51 l0 x11_1).f0))) (fun _ hk => hk.2) (.string ((rd_T51 l0 x11_1).f1))) (fun _ hk => hk.2) (.int .i32 ((rd_T51 l0 x11_1).f2))) (fun _ hk => hk.2) (.bool ((rd_T51 l0 x11_1).f3))) (fun _ hk => hk.2) (.int .u32 ((rd_T51 l0 x11_1).f4))) (fun _ h_ => h_.1))) (Kd.R_base ho0) hb); replace BK356 := Z (blk_below (g := gb356) (o := .cells #[.int .i64 ((rd_T51 l0 x11_1).f0), .string ((rd_T51 l0 x11_1).f1), .int .i32 ((rd_T51 l0 x11_1).f2), .bool ((rd_T51 l0 x11_1).f3), .int .u32 ((rd_T51 l0 x11_1).f4)] 51 (0, 0)) (Z26 BK356) hb); replace HB := Z (below_step Z42 hb); (try clear hb); (try clear hb2); (try clear hk); (try clear hi); (try clear ho0); obtain ⟨Ao20, co20, eo20⟩ := Kd.R_slice HO359.out; subst eo20) | ((with_reducible refine gate_builtin (b := .append) (xs := #[.tmp 17, .tmp 18]) rfl ?_); (try (refine gate_guard (by rfl) ?_; dsimp only)); at_builtin; refine Kd.R_append_rows (Kd.int .u32) (w0 := w) w.heap.size rfl (.tmp 17) (.tmp 18) 24 47 (.int .u32 0) 4 rfl Try.underlying24 info47 rfl (by decide) (by omega) u4 x4_1 t357 _ _ _ (fun k_ => some k_ ≠ (.slice Ao20 t357.length co20 : Value).ownBlock) (fun _ => False) rfl rfl ?aO ?aR (fun _ _ h => h) (fun _ h => h.elim) ?aF ?aB ?aS ?aL ?_; (case aR => exact (Z21 HO359)); (case aB => exact Z42); (case aF => exact (fun k_ hk => Kd.fresh' (Kd.R_lt (Z14 HO359)) k_ hk)); (case aO => exact (Z22 HO_4)); (case aS => exact (below_size Z42)); (case aL => have := LMc8.out; omega); intro v361 w19 ho hb hg hat; rw [← Ny360.out] at ho; replace BK356 := Z (blk_grown (g := gb356) (o := .cells #[.int .i64 ((rd_T51 l0 x11_1).f0), .string ((rd_T51 l0 x11_1).f1), .int .i32 ((rd_T51 l0 x11_1).f2), .bool ((rd_T51 l0 x11_1).f3), .int .u32 ((rd_T51 l0 x11_1).f4)] 51 (0, 0)) (Z10 BK356) hg (Kd.R_ne HO_4.out BK356.out (by decide))); replace HO359 := Z (Kd.R_after (ok := (fun _ => True)) (Z14 HO359) hg hat); replace HB := Z (hb); have HO362 := Z (ho); clear HO_4; clear ho hb hg hat; obtain ⟨Ao21, co21, eo21⟩ := Kd.R_slice HO362.out; subst eo21))
         go_ret2
         exact ⟨_, Z13, Z19, Z42⟩
        ·rw [if_neg c15] at H
         have c15b0 : decide (64 < (y360.length : Int)) = false := decide_eq_false c15
         have c15b1 : decide (64 < y360.length) = false := decide_eq_false (by omega)
         clear c15
         have H' := Aside0.mk H
         clear H
         have p355 : 0 ≤ (x11_1 : Int) := of_decide_eq_true Z5
         have q355 : x11_1 < (l0.length : Int) := of_decide_eq_true Z5
         obtain ⟨ad355, e355, hx355_0, hx355_1, hx355_2, hx355_3, hx355_4⟩ := at_T51 HR0.out x11_1 p355 q355
         cases e355
         replace hx355_0 := (HB.out.cell (World.block_lt_of_cell? w _ hx355_0)).trans hx355_0
         replace hx355_1 := (HB.out.cell (World.block_lt_of_cell? w _ hx355_1)).trans hx355_1
         replace hx355_2 := (HB.out.cell (World.block_lt_of_cell? w _ hx355_2)).trans hx355_2
         replace hx355_3 := (HB.out.cell (World.block_lt_of_cell? w _ hx355_3)).trans hx355_3
         replace hx355_4 := (HB.out.cell (World.block_lt_of_cell? w _ hx355_4)).trans hx355_4
         replace p355 := eq_true p355
         replace q355 := eq_true q355
         go_wp2_with (first | ((with_reducible refine gate_dst (N := 6) rfl ?_); (try (refine gate_guard (by rfl) ?_; dsimp only)); refine box_event (by rfl) (N := 6) (by rfl) (cs := #[.int .i64 0, .string (⟨#[]⟩ : ByteArray), .int .i32 0, .bool false, .int .u32 0]) (t := 51) Z8 ?_; intro gb356 hg w22 hbox hb; replace HO_4 := Z (Kd.R_below (Z14 HO_4) hb); have BK356 := Z (hbox); have GW356 := Z ((Z63 : w.heap.size ≤ gb356)); have GE356 := Z ((Z63 : w.heap.size ≤ gb356)); replace HB := Z (below_step Z42 hb); clear hb hbox hg; have hcz23_0 : w22.cell? ⟨gb356, 0, none⟩ = some (.int .i64 0) := (blk_cell BK356.out 0).trans rfl; have hcz23_1 : w22.cell? ⟨gb356, 1, none⟩ = some (.string (⟨#[]⟩ : ByteArray)) := (blk_cell BK356.out 1).trans rfl; have hcz23_2 : w22.cell? ⟨gb356, 2, none⟩ = some (.int .i32 0) := (blk_cell BK356.out 2).trans rfl; have hcz23_3 : w22.cell? ⟨gb356, 3, none⟩ = some (.bool false) := (blk_cell BK356.out 3).trans rfl; have hcz23_4 : w22.cell? ⟨gb356, 4, none⟩ = some (.int .u32 0) := (blk_cell BK356.out 4).trans rfl; have hfz23_0 := blk_frozen BK356.out 0; have hfz23_1 := blk_frozen BK356.out 1; have hfz23_2 := blk_frozen BK356.out 2; have hfz23_3 := blk_frozen BK356.out 3; have hfz23_4 := blk_frozen BK356.out 4) | ((with_reducible refine gate_callee (f := 43) rfl ?_); refine goesL_ (some 16) rfl rfl Try.func43 Z0 rfl #[.agg #[.int .i64 ((rd_T51 l0 x11_1).f0), .string ((rd_T51 l0 x11_1).f1), .int .i32 ((rd_T51 l0 x11_1).f2), .bool ((rd_T51 l0 x11_1).f3), .int .u32 ((rd_T51 l0 x11_1).f4)]] rfl Z11 ?_; (with_reducible refine (impl_CellsOf.calls k1 ((rd_T51 l0 x11_1).f0) ((rd_T51 l0 x11_1).f1) ((rd_T51 l0 x11_1).f2) ((rd_T51 l0 x11_1).f3) ((rd_T51 l0 x11_1).f4) t357 _ A7.out).mono ?_); rintro e w24 ⟨v358, rfl, ho0, hb⟩; refine ⟨_, rfl, ?_⟩; have HO359 := Z (Kd.R_lower (Kd.R_new' ho0 (Kd.R_lt (by (with_reducible repeat (first | apply Kd.R_alloc | apply Kd.R_drewN | apply Kd.R_drew)); exact (Kd.R_mono (Kd.R_far (p := ⟨gb356, 4, none⟩) (Kd.R_far (p := ⟨gb356, 3, none⟩) (Kd.R_far (p := ⟨gb356, 2, none⟩) (Kd.R_far (p := ⟨gb356, 1, none⟩) (Kd.R_far (p := ⟨gb356, 0, none⟩) (Kd.R_types HO_4.out BK356.out (by decide)) (fun _ hk => hk.2) (.int .i64 ((rd_T51 l0 x11_1).f0))) (fun _ hk => hk.2) (.string ((rd_T51 l0 x11_1).f1))) (fun _ hk => hk.2) (.int .i32 ((rd_T51 l0 x11_1).f2))) (fun _ hk => hk.2) (.bool ((rd_T51 l0 x11_1).f3))) (fun _ hk => hk.2) (.int .u32 ((rd_T51 l0 x11_1).f4))) (fun _ h_ => h_.1))))) (below_size Z42)); replace HO_4 := Z (Kd.R_elder' (by (with_reducible repeat (first | apply Kd.R_alloc | apply Kd.R_drewN | apply Kd.R_drew)); exact (Kd.R_mono (Kd.R_far (p := ⟨gb356, 4, none⟩) (Kd.R_far (p := ⟨gb356, 3, none⟩) (Kd.R_far (p := ⟨gb356, 2, none⟩) (Kd.R_far (p := ⟨gb356, 1, none⟩) (Kd.R_far (p := ⟨gb356, 0, none⟩) (Kd.R_types HO_4.out BK356.out (by decide)) (fun _ hk => hk.2) (.int .i64 ((rd_T51 l0 x11_1).f0))) (fun _ hk => hk.2) (.string ((rd_T51 l0 x11_1).f1))) (fun _ hk => hk.2) (.int .i32 ((rd_T51 l0 x11_1).f2))) (fun _ hk => hk.2) (.bool ((rd_T51 l0 x11_1).f3))) (fun _ hk => hk.2) (.int .u32 ((rd_T51 l0 x11_1).f4))) (fun _ h_ => h_.1))) (Kd.R_base ho0) hb); replace BK356 := Z (blk_below (g := gb356) (o := .cells #[.int .i64 ((rd_T51 l0 x11_1).f0), .string ((rd_T51 l0 x11_1).f1), .int .i32 ((rd_T51 l0 x11_1).f2), .bool ((rd_T51 l0 x11_1).f3), .int .u32 ((rd_T51 l0 x11_1).f4)] 51 (0, 0)) (Z26 BK356) hb); replace HB := Z (below_step Z42 hb); (try clear hb); (try clear hb2); (try clear hk); (try clear hi); (try clear ho0); obtain ⟨Ao26, co26, eo26⟩ := Kd.R_slice HO359.out; subst eo26) | ((with_reducible refine gate_builtin (b := .append) (xs := #[.tmp 17, .tmp 18]) rfl ?_); (try (refine gate_guard (by rfl) ?_; dsimp only)); at_builtin; refine Kd.R_append_rows (Kd.int .u32) (w0 := w) w.heap.size rfl (.tmp 17) (.tmp 18) 24 47 (.int .u32 0) 4 rfl Try.underlying24 info47 rfl (by decide) (by omega) u4 x4_1 t357 _ _ _ (fun k_ => some k_ ≠ (.slice Ao26 t357.length co26 : Value).ownBlock) (fun _ => False) rfl rfl ?aO ?aR (fun _ _ h => h) (fun _ h => h.elim) ?aF ?aB ?aS ?aL ?_; (case aR => exact (Z21 HO359)); (case aB => exact Z42); (case aF => exact (fun k_ hk => Kd.fresh' (Kd.R_lt (Z14 HO359)) k_ hk)); (case aO => exact (Z22 HO_4)); (case aS => exact (below_size Z42)); (case aL => have := LMc8.out; omega); intro v361 w25 ho hb hg hat; rw [← Ny360.out] at ho; replace BK356 := Z (blk_grown (g := gb356) (o := .cells #[.int .i64 ((rd_T51 l0 x11_1).f0), .string ((rd_T51 l0 x11_1).f1), .int .i32 ((rd_T51 l0 x11_1).f2), .bool ((rd_T51 l0 x11_1).f3), .int .u32 ((rd_T51 l0 x11_1).f4)] 51 (0, 0)) (Z10 BK356) hg (Kd.R_ne HO_4.out BK356.out (by decide))); replace HO359 := Z (Kd.R_after (ok := (fun _ => True)) (Z14 HO359) hg hat); replace HB := Z (hb); have HO362 := Z (ho); clear HO_4; clear ho hb hg hat; obtain ⟨Ao27, co27, eo27⟩ := Kd.R_slice HO362.out; subst eo27))
         go_roundg k1
         case measure => have := HK1.out; omega
         case rel => exact ⟨(y360), (wrap64 (x11_1 + 1)), Z3, H', ⟨Z6⟩, ⟨(Z20 HO362)⟩, ⟨Z42⟩⟩
      ·rw [if_neg c8] at H
       exact absurd H (by simp)
     ·rw [if_neg c6] at H
      exact absurd H (by simp)
    ·rw [if_neg c5] at H
     exact absurd H (by simp)
   ·rw [if_neg c4] at H
    have c4b0 : decide (x11_1 < (l0.length : Int)) = false := decide_eq_false c4
    clear c4
    simp only [Option.some.injEq, Prod.mk.injEq] at H
    obtain ⟨rfl, rfl⟩ := H
    go_wp2
    go_ret2
    exact ⟨_, Z13, (Z14 HO_4), Z42⟩

/-! ### impl_StoreOk: function 100 -/
def impl_StoreOk.f (l0_0 : List Int) : Option (Bool) := if ((l0_0.length : Int) % 64) = 0 then (some (decide ((l0_0.length : Int) ≤ 768))) else (some false)
set_option maxHeartbeats 8000000 in
set_option maxRecDepth 100000 in
theorem impl_StoreOk.calls (A0_0 : Option Addr) (c0_0 : Nat) (l0_0 : List Int) (r : Bool) (w : World) (hr0_0 : Kd.C (Kd.int .u32) w A0_0 l0_0.length l0_0) (hc0_0 : l0_0.length ≤ c0_0) (h : impl_StoreOk.f l0_0 = some r) :
  Calls Try.prog 100 #[.agg #[.slice A0_0 l0_0.length c0_0]] w fun e w' => e = .returned (.bool r) ∧ Below w.heap.size w w' := by
 have hu34 := Try.underlying34
 have HR0_0 := Aside0.mk hr0_0
 have HC0_0 := Aside0.mk hc0_0
 clear hr0_0 hc0_0
 have HB := Z (Below.refl w.heap.size w)
 have H : (if ((l0_0.length : Int) % 64) = 0 then (some (decide ((l0_0.length : Int) ≤ 768))) else (some false)) = some r := h
 clear h
 by_cases c2 : ((l0_0.length : Int) % 64) = 0
 ·rw [if_pos c2] at H
  have c2b0 : (((l0_0.length : Int) % 64) == 0) = true := beq_iff_eq.mpr c2
  have c2b1 : (((l0_0.length : Int) % 64) != 0) = false := bne_eq_false_iff_eq.mpr c2
  clear c2
  obtain rfl := Option.some.inj H
  go_enter Try.func100, Try.ntmps100
  go_wp2_with (first | ((with_reducible refine gate_dst (N := 1) rfl ?_); (try (refine gate_guard (by rfl) ?_; dsimp only)); refine box_event (by rfl) (N := 1) (by rfl) (cs := #[.slice A0_0 l0_0.length c0_0]) (t := 34) Z8 ?_; intro gb363 hg w3 hbox hb; have BK363 := Z (hbox); have GW363 := Z ((Z63 : w.heap.size ≤ gb363)); have GE363 := Z ((Z63 : w.heap.size ≤ gb363)); replace HB := Z (below_step Z42 hb); clear hb hbox hg; have hcz4_0 : w3.cell? ⟨gb363, 0, none⟩ = some (.slice A0_0 l0_0.length c0_0) := (blk_cell BK363.out 0).trans rfl; have hfz4_0 := blk_frozen BK363.out 0))
  go_ret
  exact ⟨Z13, Z42⟩
 ·rw [if_neg c2] at H
  have c2b0 : (((l0_0.length : Int) % 64) == 0) = false := beq_eq_false_iff_ne.mpr c2
  have c2b1 : (((l0_0.length : Int) % 64) != 0) = true := bne_iff_ne.mpr c2
  obtain rfl := Option.some.inj H
  go_enter Try.func100, Try.ntmps100
  go_wp2_with (first | ((with_reducible refine gate_dst (N := 1) rfl ?_); (try (refine gate_guard (by rfl) ?_; dsimp only)); refine box_event (by rfl) (N := 1) (by rfl) (cs := #[.slice A0_0 l0_0.length c0_0]) (t := 34) Z8 ?_; intro gb363 hg w5 hbox hb; have BK363 := Z (hbox); have GW363 := Z ((Z63 : w.heap.size ≤ gb363)); have GE363 := Z ((Z63 : w.heap.size ≤ gb363)); replace HB := Z (below_step Z42 hb); clear hb hbox hg; have hcz6_0 : w5.cell? ⟨gb363, 0, none⟩ = some (.slice A0_0 l0_0.length c0_0) := (blk_cell BK363.out 0).trans rfl; have hfz6_0 := blk_frozen BK363.out 0))
  go_ret
  exact ⟨Z13, Z42⟩

-- NOT PRINTED: function 120 (slices_IndexFunc_int_int)

-- NOT PRINTED: function 101 (slices_ContainsFunc_int_int)

end Go.Proofs.Ytkkiibjnpkjijaa.QFnExactPutItems
