/-
Plain functions for the Go functions that a law reaches, each with a proof that the translation's call comes to just that; no conditions beyond those written in each.
-/
import Derived.Test.YtkkiibjnpkjijaaSFnColor
namespace Go.Proofs.Ytkkiibjnpkjijaa.QFnColor
open Go.RowKit Go.Proofs.YtkkiibjnpkjijaaW.PrintWords Go.Proofs.YtkkiibjnpkjijaaW.PrintLast Go.Proofs.YtkkiibjnpkjijaaW.PrintMore
attribute [local go_sem] max2_int min2_int max_two min_two max_three min_three max_four min_four   -- for this text's walks alone
set_option linter.unusedVariables false
set_option linter.unusedSimpArgs false

/-! ### laws_big: function 13 -/
def laws_big.f (l0 : List Int) : Option (Bool) := some (decide ((l0.length : Int) > 1048576))
set_option maxHeartbeats 8000000 in
set_option maxRecDepth 100000 in
theorem laws_big.calls (A0 : Option Addr) (c0 : Nat) (l0 : List Int) (r : Bool) (w : World) (hr0 : Kd.C (Kd.int .u8) w A0 l0.length l0) (hc0 : l0.length ≤ c0) (h : laws_big.f l0 = some r) :
  Calls Try.prog 13 #[.slice A0 l0.length c0] w fun e w' => e = .returned (.bool r) ∧ Drawn0 w w' := by
 have HR0 := Aside0.mk hr0
 have HC0 := Aside0.mk hc0
 clear hr0 hc0
 have H : (some (decide ((l0.length : Int) > 1048576))) = some r := h
 clear h
 obtain rfl := Option.some.inj H
 go_enter Try.func13, Try.ntmps13
 go_wp2
 go_ret
 exact ⟨Z2, Z3⟩

/-! ### spec_l01In: function 68 -/
def spec_l01In.f (a0 : Int) (a1 : Int) (a2 : Int) : Option (Bool) := if a0 ≥ a1 then (some (decide (a0 ≤ a2))) else (some false)
set_option maxHeartbeats 8000000 in
set_option maxRecDepth 100000 in
theorem spec_l01In.calls (a0 : Int) (a1 : Int) (a2 : Int) (r : Bool) (w : World) (h : spec_l01In.f a0 a1 a2 = some r) :
  Calls Try.prog 68 #[.int .i64 a0, .int .i64 a1, .int .i64 a2] w fun e w' => e = .returned (.bool r) ∧ Drawn0 w w' := by
 have H : (if a0 ≥ a1 then (some (decide (a0 ≤ a2))) else (some false)) = some r := h
 clear h
 by_cases c4 : a0 ≥ a1
 ·rw [if_pos c4] at H
  have c4b0 : decide (a1 ≤ a0) = true := decide_eq_true c4
  clear c4
  obtain rfl := Option.some.inj H
  go_enter Try.func68, Try.ntmps68
  go_wp2
  go_ret
  exact ⟨Z2, Z3⟩
 ·rw [if_neg c4] at H
  have c4b0 : decide (a1 ≤ a0) = false := decide_eq_false c4
  clear c4
  obtain rfl := Option.some.inj H
  go_enter Try.func68, Try.ntmps68
  go_wp2
  go_ret
  exact ⟨Z2, Z3⟩

/-! ### spec_l04Num: function 108 -/
def spec_l04Num.f (a0 : Int) (a1 : Bool) (a2 : Int) (a3 : Int) : Option (List Int) := if a1 = true then (if a0 ≥ (-67108864) then (if a0 ≤ 67108863 then (some (([((((((a0) % 4294967296) * 32) % 4294967296) + 16) + a2) % 4294967296] : List Int))) else (some (([(16 + a3) % 4294967296, (a0) % 4294967296] : List Int)))) else (some (([(16 + a3) % 4294967296, (a0) % 4294967296] : List Int)))) else (if a0 ≥ (-67108864) then (if a0 ≤ 67108863 then (some (([((((((a0) % 4294967296) * 32) % 4294967296) + 0) + a2) % 4294967296] : List Int))) else (some (([(0 + a3) % 4294967296, (a0) % 4294967296] : List Int)))) else (some (([(0 + a3) % 4294967296, (a0) % 4294967296] : List Int))))
set_option maxHeartbeats 8000000 in
set_option maxRecDepth 100000 in
theorem spec_l04Num.calls (a0 : Int) (a1 : Bool) (a2 : Int) (a3 : Int) (r : List Int) (w : World) (h : spec_l04Num.f a0 a1 a2 a3 = some r) :
  Calls Try.prog 108 #[.int .i32 a0, .bool a1, .int .u32 a2, .int .u32 a3] w fun e w' => ∃ v0_ : Value, e = .returned (v0_) ∧ Kd.R (Kd.int .u32) 47 w' w.heap.size (fun _ => True) v0_ r ∧ Below w.heap.size w w' := by
 have HB := Z (Below.refl w.heap.size w)
 have H : (if a1 = true then (if a0 ≥ (-67108864) then (if a0 ≤ 67108863 then (some (([((((((a0) % 4294967296) * 32) % 4294967296) + 16) + a2) % 4294967296] : List Int))) else (some (([(16 + a3) % 4294967296, (a0) % 4294967296] : List Int)))) else (some (([(16 + a3) % 4294967296, (a0) % 4294967296] : List Int)))) else (if a0 ≥ (-67108864) then (if a0 ≤ 67108863 then (some (([((((((a0) % 4294967296) * 32) % 4294967296) + 0) + a2) % 4294967296] : List Int))) else (some (([(0 + a3) % 4294967296, (a0) % 4294967296] : List Int)))) else (some (([(0 + a3) % 4294967296, (a0) % 4294967296] : List Int))))) = some r := h
 clear h
 by_cases c5 : a1 = true
 ·subst c5
  have H1 : (if a0 ≥ (-67108864) then (if a0 ≤ 67108863 then (some (([((((((a0) % 4294967296) * 32) % 4294967296) + 16) + a2) % 4294967296] : List Int))) else (some (([(16 + a3) % 4294967296, (a0) % 4294967296] : List Int)))) else (some (([(16 + a3) % 4294967296, (a0) % 4294967296] : List Int)))) = some r := Z4
  clear H
  have H := H1
  clear H1
  by_cases c6 : a0 ≥ (-67108864)
  ·rw [if_pos c6] at H
   have c6b0 : decide ((-67108864) ≤ a0) = true := decide_eq_true c6
   clear c6
   by_cases c7 : a0 ≤ 67108863
   ·rw [if_pos c7] at H
    have c7b0 : decide (a0 ≤ 67108863) = true := decide_eq_true c7
    clear c7
    obtain ⟨y101, hy101⟩ : ∃ y_ : List Int, y_ = (([((((((a0) % 4294967296) * 32) % 4294967296) + 16) + a2) % 4294967296] : List Int)) := ⟨_, rfl⟩
    replace H : (some y101) = some r := by first | (rw [hy101]; with_reducible exact H) | (have H2_ := (Option.bind_some _ _).symm.trans H; rw [hy101]; with_reducible exact H2_) | (have H2_ := (Option.bind_some _ _).symm.trans H; with_reducible exact H2_) | with_reducible exact H | (rw [hy101]; exact H) | exact H
    have Ny101 := Aside0.mk hy101
    clear hy101
    obtain rfl := Option.some.inj H
    go_enter Try.func108, Try.ntmps108
    go_wp2_with (first | ((with_reducible refine gate_dst (N := 24) rfl ?_); refine Kd.R_lit (Kd.int .u32) _ 47 (by rfl) (N := 24) (by rfl) (xs := ([((((((a0) % 4294967296) * 32) % 4294967296) + 16) + a2) % 4294967296] : List Int)) (inner := [.int .u32 (((((((a0) % 4294967296) * 32) % 4294967296) + 16) + a2) % 4294967296)]) (ok := fun _ => True) (okp := fun _ => True) Z5 (Reps.one (show Kd.M (Kd.int .u32) _ _ _ (((((((a0) % 4294967296) * 32) % 4294967296) + 16) + a2) % 4294967296) [.int .u32 (((((((a0) % 4294967296) * 32) % 4294967296) + 16) + a2) % 4294967296)] from rfl) (Reps.none _ _)) (fun _ hk => hk) trivial (Below.refl _ _) (Nat.le_refl _) (by simp) ?_; intro v102 w8 ho9 hb hg_ hnew_; clear hg_ hnew_; (first | rw [← Ny101.out] at ho9 | (simp only [Int.reduceToNat] at ho9; rw [← Ny101.out] at ho9)); have HO103 := Z (Kd.R_lower ho9 (below_size Z47)); replace HB := Z (below_step Z47 hb); clear hb ho9))
    go_ret
    exact ⟨_, Z7, (Z8 HO103), Z47⟩
   ·rw [if_neg c7] at H
    have c7b0 : decide (a0 ≤ 67108863) = false := decide_eq_false c7
    clear c7
    obtain ⟨y104, hy104⟩ : ∃ y_ : List Int, y_ = (([(16 + a3) % 4294967296, (a0) % 4294967296] : List Int)) := ⟨_, rfl⟩
    replace H : (some y104) = some r := by first | (rw [hy104]; with_reducible exact H) | (have H2_ := (Option.bind_some _ _).symm.trans H; rw [hy104]; with_reducible exact H2_) | (have H2_ := (Option.bind_some _ _).symm.trans H; with_reducible exact H2_) | with_reducible exact H | (rw [hy104]; exact H) | exact H
    have Ny104 := Aside0.mk hy104
    clear hy104
    obtain rfl := Option.some.inj H
    go_enter Try.func108, Try.ntmps108
    go_wp2_with (first | ((with_reducible refine gate_dst (N := 30) rfl ?_); refine Kd.R_lit (Kd.int .u32) _ 47 (by rfl) (N := 30) (by rfl) (xs := ([(16 + a3) % 4294967296, (a0) % 4294967296] : List Int)) (inner := [.int .u32 ((16 + a3) % 4294967296), .int .u32 ((a0) % 4294967296)]) (ok := fun _ => True) (okp := fun _ => True) Z5 (Reps.one (show Kd.M (Kd.int .u32) _ _ _ ((16 + a3) % 4294967296) [.int .u32 ((16 + a3) % 4294967296)] from rfl) (Reps.one (show Kd.M (Kd.int .u32) _ _ _ ((a0) % 4294967296) [.int .u32 ((a0) % 4294967296)] from rfl) (Reps.none _ _))) (fun _ hk => hk) trivial (Below.refl _ _) (Nat.le_refl _) (by simp) ?_; intro v105 w10 ho11 hb hg_ hnew_; clear hg_ hnew_; (first | rw [← Ny104.out] at ho11 | (simp only [Int.reduceToNat] at ho11; rw [← Ny104.out] at ho11)); have HO106 := Z (Kd.R_lower ho11 (below_size Z47)); replace HB := Z (below_step Z47 hb); clear hb ho11))
    go_ret
    exact ⟨_, Z7, (Z8 HO106), Z47⟩
  ·rw [if_neg c6] at H
   have c6b0 : decide ((-67108864) ≤ a0) = false := decide_eq_false c6
   clear c6
   obtain ⟨y107, hy107⟩ : ∃ y_ : List Int, y_ = (([(16 + a3) % 4294967296, (a0) % 4294967296] : List Int)) := ⟨_, rfl⟩
   replace H : (some y107) = some r := by first | (rw [hy107]; with_reducible exact H) | (have H2_ := (Option.bind_some _ _).symm.trans H; rw [hy107]; with_reducible exact H2_) | (have H2_ := (Option.bind_some _ _).symm.trans H; with_reducible exact H2_) | with_reducible exact H | (rw [hy107]; exact H) | exact H
   have Ny107 := Aside0.mk hy107
   clear hy107
   obtain rfl := Option.some.inj H
   go_enter Try.func108, Try.ntmps108
   go_wp2_with (first | ((with_reducible refine gate_dst (N := 30) rfl ?_); refine Kd.R_lit (Kd.int .u32) _ 47 (by rfl) (N := 30) (by rfl) (xs := ([(16 + a3) % 4294967296, (a0) % 4294967296] : List Int)) (inner := [.int .u32 ((16 + a3) % 4294967296), .int .u32 ((a0) % 4294967296)]) (ok := fun _ => True) (okp := fun _ => True) Z5 (Reps.one (show Kd.M (Kd.int .u32) _ _ _ ((16 + a3) % 4294967296) [.int .u32 ((16 + a3) % 4294967296)] from rfl) (Reps.one (show Kd.M (Kd.int .u32) _ _ _ ((a0) % 4294967296) [.int .u32 ((a0) % 4294967296)] from rfl) (Reps.none _ _))) (fun _ hk => hk) trivial (Below.refl _ _) (Nat.le_refl _) (by simp) ?_; intro v108 w12 ho13 hb hg_ hnew_; clear hg_ hnew_; (first | rw [← Ny107.out] at ho13 | (simp only [Int.reduceToNat] at ho13; rw [← Ny107.out] at ho13)); have HO109 := Z (Kd.R_lower ho13 (below_size Z47)); replace HB := Z (below_step Z47 hb); clear hb ho13))
   go_ret
   exact ⟨_, Z7, (Z8 HO109), Z47⟩
 ·replace c5 := Bool.eq_false_iff.mpr c5
  subst c5
  have H1 : (if a0 ≥ (-67108864) then (if a0 ≤ 67108863 then (some (([((((((a0) % 4294967296) * 32) % 4294967296) + 0) + a2) % 4294967296] : List Int))) else (some (([(0 + a3) % 4294967296, (a0) % 4294967296] : List Int)))) else (some (([(0 + a3) % 4294967296, (a0) % 4294967296] : List Int)))) = some r := by rw [if_neg (show ¬ (false = true) by decide)] at H; exact H
  clear H
  have H := H1
  clear H1
  by_cases c14 : a0 ≥ (-67108864)
  ·rw [if_pos c14] at H
   have c14b0 : decide ((-67108864) ≤ a0) = true := decide_eq_true c14
   clear c14
   by_cases c15 : a0 ≤ 67108863
   ·rw [if_pos c15] at H
    have c15b0 : decide (a0 ≤ 67108863) = true := decide_eq_true c15
    clear c15
    obtain ⟨y110, hy110⟩ : ∃ y_ : List Int, y_ = (([((((((a0) % 4294967296) * 32) % 4294967296) + 0) + a2) % 4294967296] : List Int)) := ⟨_, rfl⟩
    replace H : (some y110) = some r := by first | (rw [hy110]; with_reducible exact H) | (have H2_ := (Option.bind_some _ _).symm.trans H; rw [hy110]; with_reducible exact H2_) | (have H2_ := (Option.bind_some _ _).symm.trans H; with_reducible exact H2_) | with_reducible exact H | (rw [hy110]; exact H) | exact H
    have Ny110 := Aside0.mk hy110
    clear hy110
    obtain rfl := Option.some.inj H
    go_enter Try.func108, Try.ntmps108
    go_wp2_with (first | ((with_reducible refine gate_dst (N := 24) rfl ?_); refine Kd.R_lit (Kd.int .u32) _ 47 (by rfl) (N := 24) (by rfl) (xs := ([((((((a0) % 4294967296) * 32) % 4294967296) + 0) + a2) % 4294967296] : List Int)) (inner := [.int .u32 (((((((a0) % 4294967296) * 32) % 4294967296) + 0) + a2) % 4294967296)]) (ok := fun _ => True) (okp := fun _ => True) Z5 (Reps.one (show Kd.M (Kd.int .u32) _ _ _ (((((((a0) % 4294967296) * 32) % 4294967296) + 0) + a2) % 4294967296) [.int .u32 (((((((a0) % 4294967296) * 32) % 4294967296) + 0) + a2) % 4294967296)] from rfl) (Reps.none _ _)) (fun _ hk => hk) trivial (Below.refl _ _) (Nat.le_refl _) (by simp) ?_; intro v111 w16 ho17 hb hg_ hnew_; clear hg_ hnew_; (first | rw [← Ny110.out] at ho17 | (simp only [Int.reduceToNat] at ho17; rw [← Ny110.out] at ho17)); have HO112 := Z (Kd.R_lower ho17 (below_size Z47)); replace HB := Z (below_step Z47 hb); clear hb ho17))
    go_ret
    exact ⟨_, Z7, (Z8 HO112), Z47⟩
   ·rw [if_neg c15] at H
    have c15b0 : decide (a0 ≤ 67108863) = false := decide_eq_false c15
    clear c15
    obtain ⟨y113, hy113⟩ : ∃ y_ : List Int, y_ = (([(0 + a3) % 4294967296, (a0) % 4294967296] : List Int)) := ⟨_, rfl⟩
    replace H : (some y113) = some r := by first | (rw [hy113]; with_reducible exact H) | (have H2_ := (Option.bind_some _ _).symm.trans H; rw [hy113]; with_reducible exact H2_) | (have H2_ := (Option.bind_some _ _).symm.trans H; with_reducible exact H2_) | with_reducible exact H | (rw [hy113]; exact H) | exact H
    have Ny113 := Aside0.mk hy113
    clear hy113
    obtain rfl := Option.some.inj H
    go_enter Try.func108, Try.ntmps108
    go_wp2_with (first | ((with_reducible refine gate_dst (N := 30) rfl ?_); refine Kd.R_lit (Kd.int .u32) _ 47 (by rfl) (N := 30) (by rfl) (xs := ([(0 + a3) % 4294967296, (a0) % 4294967296] : List Int)) (inner := [.int .u32 ((0 + a3) % 4294967296), .int .u32 ((a0) % 4294967296)]) (ok := fun _ => True) (okp := fun _ => True) Z5 (Reps.one (show Kd.M (Kd.int .u32) _ _ _ ((0 + a3) % 4294967296) [.int .u32 ((0 + a3) % 4294967296)] from rfl) (Reps.one (show Kd.M (Kd.int .u32) _ _ _ ((a0) % 4294967296) [.int .u32 ((a0) % 4294967296)] from rfl) (Reps.none _ _))) (fun _ hk => hk) trivial (Below.refl _ _) (Nat.le_refl _) (by simp) ?_; intro v114 w18 ho19 hb hg_ hnew_; clear hg_ hnew_; (first | rw [← Ny113.out] at ho19 | (simp only [Int.reduceToNat] at ho19; rw [← Ny113.out] at ho19)); have HO115 := Z (Kd.R_lower ho19 (below_size Z47)); replace HB := Z (below_step Z47 hb); clear hb ho19))
    go_ret
    exact ⟨_, Z7, (Z8 HO115), Z47⟩
  ·rw [if_neg c14] at H
   have c14b0 : decide ((-67108864) ≤ a0) = false := decide_eq_false c14
   clear c14
   obtain ⟨y116, hy116⟩ : ∃ y_ : List Int, y_ = (([(0 + a3) % 4294967296, (a0) % 4294967296] : List Int)) := ⟨_, rfl⟩
   replace H : (some y116) = some r := by first | (rw [hy116]; with_reducible exact H) | (have H2_ := (Option.bind_some _ _).symm.trans H; rw [hy116]; with_reducible exact H2_) | (have H2_ := (Option.bind_some _ _).symm.trans H; with_reducible exact H2_) | with_reducible exact H | (rw [hy116]; exact H) | exact H
   have Ny116 := Aside0.mk hy116
   clear hy116
   obtain rfl := Option.some.inj H
   go_enter Try.func108, Try.ntmps108
   go_wp2_with (first | ((with_reducible refine gate_dst (N := 30) rfl ?_); refine Kd.R_lit (Kd.int .u32) _ 47 (by rfl) (N := 30) (by rfl) (xs := ([(0 + a3) % 4294967296, (a0) % 4294967296] : List Int)) (inner := [.int .u32 ((0 + a3) % 4294967296), .int .u32 ((a0) % 4294967296)]) (ok := fun _ => True) (okp := fun _ => True) Z5 (Reps.one (show Kd.M (Kd.int .u32) _ _ _ ((0 + a3) % 4294967296) [.int .u32 ((0 + a3) % 4294967296)] from rfl) (Reps.one (show Kd.M (Kd.int .u32) _ _ _ ((a0) % 4294967296) [.int .u32 ((a0) % 4294967296)] from rfl) (Reps.none _ _))) (fun _ hk => hk) trivial (Below.refl _ _) (Nat.le_refl _) (by simp) ?_; intro v117 w20 ho21 hb hg_ hnew_; clear hg_ hnew_; (first | rw [← Ny116.out] at ho21 | (simp only [Int.reduceToNat] at ho21; rw [← Ny116.out] at ho21)); have HO118 := Z (Kd.R_lower ho21 (below_size Z47)); replace HB := Z (below_step Z47 hb); clear hb ho21))
   go_ret
   exact ⟨_, Z7, (Z8 HO118), Z47⟩

/-! ### spec_l02All: function 130 -/
def spec_l02All.f  : Option (ByteArray) := some (⟨#[32, 114, 116, 111, 101, 97, 110, 105, 115, 109, 99, 121, 108, 103, 102, 119, 100, 118, 112, 98, 104, 120, 117, 113, 48, 49, 50, 51, 52, 53, 54, 55, 56, 57, 106, 45, 107, 46, 122, 47, 59, 39, 33, 43, 64, 42, 44, 63]⟩ : ByteArray)
set_option maxHeartbeats 8000000 in
set_option maxRecDepth 100000 in
theorem spec_l02All.calls  (r : ByteArray) (w : World) (h : spec_l02All.f  = some r) :
  Calls Try.prog 130 #[] w fun e w' => e = .returned (.string r) ∧ Drawn0 w w' := by
 have H : (some (⟨#[32, 114, 116, 111, 101, 97, 110, 105, 115, 109, 99, 121, 108, 103, 102, 119, 100, 118, 112, 98, 104, 120, 117, 113, 48, 49, 50, 51, 52, 53, 54, 55, 56, 57, 106, 45, 107, 46, 122, 47, 59, 39, 33, 43, 64, 42, 44, 63]⟩ : ByteArray)) = some r := h
 clear h
 obtain rfl := Option.some.inj H
 go_enter Try.func130, Try.ntmps130
 go_wp2
 go_ret
 exact ⟨Z2, Z3⟩

/-! ### spec_LetterOf: function 132 -/
def spec_LetterOf.l0 : Nat → Int → ByteArray → Int → Option (Int)
 | 0, _, _, _ => none
 | k + 1, x0, x3, x4 => if x4 < (x3.size : Int) then (if 0 ≤ x4 then (if (bt x3 x4) = x0 then (some x4) else (spec_LetterOf.l0 k x0 x3 (wrap64 (x4 + 1)))) else (none)) else (some (-1))
def spec_LetterOf.f (k : Nat) (a0 : Int) : Option (Int) := (spec_l02All.f).bind fun t119 => (spec_LetterOf.l0 k a0 t119 0)
theorem spec_LetterOf.mono_l : ∀ k, (∀ y0 y1 y2, LeO (spec_LetterOf.l0 k y0 y1 y2) (spec_LetterOf.l0 (k + 1) y0 y1 y2))
 | 0 => fun _ _ _ r h => by simp [spec_LetterOf.l0] at h
 | k + 1 => by
  have ih0 := spec_LetterOf.mono_l k
  ·intro y0 y1 y2
   unfold spec_LetterOf.l0
   repeat' first
   | (with_reducible exact ih0 _ _ _)
   | (with_reducible exact LeO.refl _)
   | (with_reducible exact LeO.none _)
   | (with_reducible refine LeO.ite ?_ ?_)
   | (with_reducible refine LeO.bind ?_ (fun _ => ?_))
   | exact ih0 _ _ _
   | exact LeO.none _
   | refine LeO.ite ?_ ?_
   | refine LeO.bind ?_ (fun _ => ?_)
theorem spec_LetterOf.mono : ∀ a0 k, LeO (spec_LetterOf.f k a0) (spec_LetterOf.f (k + 1) a0) := by
 intro a0 k
 have ih0 := spec_LetterOf.mono_l k
 unfold spec_LetterOf.f
 repeat' first
   | (with_reducible exact ih0 _ _ _)
   | (with_reducible exact LeO.refl _)
   | (with_reducible exact LeO.none _)
   | (with_reducible refine LeO.ite ?_ ?_)
   | (with_reducible refine LeO.bind ?_ (fun _ => ?_))
   | exact ih0 _ _ _
   | exact LeO.none _
   | refine LeO.ite ?_ ?_
   | refine LeO.bind ?_ (fun _ => ?_)
set_option maxHeartbeats 8000000 in
set_option maxRecDepth 100000 in
theorem spec_LetterOf.calls (k : Nat) (a0 : Int) (r : Int) (w : World) (h : spec_LetterOf.f k a0 = some r) :
  Calls Try.prog 132 #[.int .u8 a0] w fun e w' => e = .returned (.int .i64 r) ∧ Drawn0 w w' := by
 have H : ((spec_l02All.f).bind fun t119 => (spec_LetterOf.l0 k a0 t119 0)) = some r := h
 clear h
 replace H := Option.bind_eq_some_iff.mp H
 obtain ⟨t119, A20, H⟩ := H
 replace H : (spec_LetterOf.l0 k a0 t119 0) = some r := H
 have A2 := Aside0.mk A20
 clear A20
 have H' := Aside0.mk H
 clear H
 go_enter Try.func132, Try.ntmps132
 go_wp2_with (first | ((with_reducible refine gate_callee (f := 130) rfl ?_); refine goesL_ (some 5) rfl rfl Try.func130 Z0 rfl #[] rfl Z9 ?_; (with_reducible refine (spec_l02All.calls  t119 _ A2.out).mono ?_); rintro e w' ⟨rfl, ⟨nd, rfl⟩⟩; refine ⟨_, rfl, ?_⟩))
 go_loopg [4] k (fun kq v4 w' => ∃ (x4_1 : Int), v4 = .int .i64 x4_1 ∧ Aside0 (spec_LetterOf.l0 kq a0 t119 x4_1 = some r) ∧ Aside0 (kq ≤ k) ∧ Drawn0 w w')
 case atStart => exact ⟨(0), Z2, H', ⟨Nat.le_refl _⟩, Z3⟩
 case round =>
  clear H'
  try clear c1
  try clear p2
  obtain ⟨x4_1, rfl, HA, HK1, ⟨m1, rfl⟩⟩ := hrel
  cases gk with
  | zero => exact absurd HA.out (by simp [spec_LetterOf.l0])
  | succ k1 =>
   have H := HA.out
   clear HA
   simp only [spec_LetterOf.l0] at H
   by_cases c3 : x4_1 < (t119.size : Int)
   ·rw [if_pos c3] at H
    have c3b0 : decide (x4_1 < (t119.size : Int)) = true := decide_eq_true c3
    clear c3
    by_cases c4 : 0 ≤ x4_1
    ·rw [if_pos c4] at H
     have c4b0 : decide (0 ≤ x4_1) = true := decide_eq_true c4
     clear c4
     by_cases c6 : (bt t119 x4_1) = a0
     ·rw [if_pos c6] at H
      have c6b0 : ((bt t119 x4_1) == a0) = true := beq_iff_eq.mpr c6
      have c6b1 : ((bt t119 x4_1) != a0) = false := bne_eq_false_iff_eq.mpr c6
      clear c6
      obtain rfl := Option.some.inj H
      have p5 : 0 ≤ (x4_1 : Int) := of_decide_eq_true Z10
      have q5 : x4_1 < (t119.size : Int) := of_decide_eq_true Z10
      have hx5 := bt_at t119 x4_1
      replace p5 := eq_true p5
      replace q5 := eq_true q5
      go_wp2
      go_ret
      exact ⟨Z2, Z3⟩
     ·rw [if_neg c6] at H
      have c6b0 : ((bt t119 x4_1) == a0) = false := beq_eq_false_iff_ne.mpr c6
      have c6b1 : ((bt t119 x4_1) != a0) = true := bne_iff_ne.mpr c6
      have H' := Aside0.mk H
      clear H
      have p5 : 0 ≤ (x4_1 : Int) := of_decide_eq_true Z10
      have q5 : x4_1 < (t119.size : Int) := of_decide_eq_true Z10
      have hx5 := bt_at t119 x4_1
      replace p5 := eq_true p5
      replace q5 := eq_true q5
      go_wp2
      go_roundg k1
      case measure => have := HK1.out; omega
      case rel => exact ⟨(wrap64 (x4_1 + 1)), Z2, H', ⟨Z11⟩, Z3⟩
    ·rw [if_neg c4] at H
     exact absurd H (by simp)
   ·rw [if_neg c3] at H
    have c3b0 : decide (x4_1 < (t119.size : Int)) = false := decide_eq_false c3
    clear c3
    obtain rfl := Option.some.inj H
    go_wp2
    go_ret
    exact ⟨Z2, Z3⟩

/-! ### spec_NameOk: function 125 -/
def spec_NameOk.l0 : Nat → ByteArray → Int → Option (Bool)
 | 0, _, _ => none
 | k + 1, x0, x3 => if x3 < (x0.size : Int) then (if 0 ≤ x3 then ((spec_LetterOf.f k (bt x0 x3)).bind fun t121 => (if t121 < 1 then (some false) else (spec_NameOk.l0 k x0 (wrap64 (x3 + 1))))) else (none)) else (some true)
def spec_NameOk.f (k : Nat) (a0 : ByteArray) : Option (Bool) := (spec_l01In.f (a0.size : Int) 1 24).bind fun t120 => (if t120 = true then (spec_NameOk.l0 k a0 0) else (some false))
theorem spec_NameOk.mono_l : ∀ k, (∀ y0 y1, LeO (spec_NameOk.l0 k y0 y1) (spec_NameOk.l0 (k + 1) y0 y1))
 | 0 => fun _ _ r h => by simp [spec_NameOk.l0] at h
 | k + 1 => by
  have ih0 := spec_NameOk.mono_l k
  ·intro y0 y1
   unfold spec_NameOk.l0
   repeat' first
   | (with_reducible exact ih0 _ _)
   | (with_reducible exact spec_LetterOf.mono _ _)
   | (with_reducible exact LeO.refl _)
   | (with_reducible exact LeO.none _)
   | (with_reducible refine LeO.ite ?_ ?_)
   | (with_reducible refine LeO.bind ?_ (fun _ => ?_))
   | exact ih0 _ _
   | exact spec_LetterOf.mono _ _
   | exact LeO.none _
   | refine LeO.ite ?_ ?_
   | refine LeO.bind ?_ (fun _ => ?_)
theorem spec_NameOk.mono : ∀ a0 k, LeO (spec_NameOk.f k a0) (spec_NameOk.f (k + 1) a0) := by
 intro a0 k
 have ih0 := spec_NameOk.mono_l k
 unfold spec_NameOk.f
 repeat' first
   | (with_reducible exact ih0 _ _)
   | (with_reducible exact spec_LetterOf.mono _ _)
   | (with_reducible exact LeO.refl _)
   | (with_reducible exact LeO.none _)
   | (with_reducible refine LeO.ite ?_ ?_)
   | (with_reducible refine LeO.bind ?_ (fun _ => ?_))
   | exact ih0 _ _
   | exact spec_LetterOf.mono _ _
   | exact LeO.none _
   | refine LeO.ite ?_ ?_
   | refine LeO.bind ?_ (fun _ => ?_)
set_option maxHeartbeats 8000000 in
set_option maxRecDepth 100000 in
theorem spec_NameOk.calls (k : Nat) (a0 : ByteArray) (r : Bool) (w : World) (h : spec_NameOk.f k a0 = some r) :
  Calls Try.prog 125 #[.string a0] w fun e w' => e = .returned (.bool r) ∧ Drawn0 w w' := by
 have H : ((spec_l01In.f (a0.size : Int) 1 24).bind fun t120 => (if t120 = true then (spec_NameOk.l0 k a0 0) else (some false))) = some r := h
 clear h
 replace H := Option.bind_eq_some_iff.mp H
 obtain ⟨t120, A20, H⟩ := H
 replace H : (if t120 = true then (spec_NameOk.l0 k a0 0) else (some false)) = some r := H
 have A2 := Aside0.mk A20
 clear A20
 by_cases c3 : t120 = true
 ·subst c3
  have H1 : (spec_NameOk.l0 k a0 0) = some r := Z4
  clear H
  have H := H1
  clear H1
  have H' := Aside0.mk H
  clear H
  go_enter Try.func125, Try.ntmps125
  go_wp2_with (first | ((with_reducible refine gate_callee (f := 68) rfl ?_); refine goesL_ (some 6) rfl rfl Try.func68 Z0 rfl #[.int .i64 (a0.size : Int), .int .i64 1, .int .i64 24] rfl Z9 ?_; (with_reducible refine (spec_l01In.calls (a0.size : Int) 1 24 true _ A2.out).mono ?_); rintro e w' ⟨rfl, ⟨nd, rfl⟩⟩; refine ⟨_, rfl, ?_⟩))
  go_loopg [3] k (fun kq v3 w' => ∃ (x3_1 : Int), v3 = .int .i64 x3_1 ∧ Aside0 (spec_NameOk.l0 kq a0 x3_1 = some r) ∧ Aside0 (kq ≤ k) ∧ Drawn0 w w')
  case atStart => exact ⟨(0), Z2, H', ⟨Nat.le_refl _⟩, Z3⟩
  case round =>
   clear H'
   try clear c1
   try clear p2
   try clear c3
   obtain ⟨x3_1, rfl, HA, HK1, ⟨m1, rfl⟩⟩ := hrel
   cases gk with
   | zero => exact absurd HA.out (by simp [spec_NameOk.l0])
   | succ k1 =>
    have H := HA.out
    clear HA
    simp only [spec_NameOk.l0] at H
    by_cases c4 : x3_1 < (a0.size : Int)
    ·rw [if_pos c4] at H
     have c4b0 : decide (x3_1 < (a0.size : Int)) = true := decide_eq_true c4
     clear c4
     by_cases c5 : 0 ≤ x3_1
     ·rw [if_pos c5] at H
      have c5b0 : decide (0 ≤ x3_1) = true := decide_eq_true c5
      clear c5
      replace H := Option.bind_eq_some_iff.mp H
      obtain ⟨t121, A70, H⟩ := H
      replace H : (if t121 < 1 then (some false) else (spec_NameOk.l0 k1 a0 (wrap64 (x3_1 + 1)))) = some r := H
      have A7 := Aside0.mk A70
      clear A70
      by_cases c8 : t121 < 1
      ·rw [if_pos c8] at H
       have c8b0 : decide (t121 < 1) = true := decide_eq_true c8
       clear c8
       obtain rfl := Option.some.inj H
       have p6 : 0 ≤ (x3_1 : Int) := of_decide_eq_true Z10
       have q6 : x3_1 < (a0.size : Int) := of_decide_eq_true Z10
       have hx6 := bt_at a0 x3_1
       replace p6 := eq_true p6
       replace q6 := eq_true q6
       go_wp2_with (first | ((with_reducible refine gate_callee (f := 132) rfl ?_); refine goesL_ (some 17) rfl rfl Try.func132 Z0 rfl #[.int .u8 (bt a0 x3_1)] rfl Z9 ?_; (with_reducible refine (spec_LetterOf.calls k1 (bt a0 x3_1) t121 _ A7.out).mono ?_); rintro e w' ⟨rfl, ⟨nd, rfl⟩⟩; refine ⟨_, rfl, ?_⟩))
       go_ret
       exact ⟨Z2, Z3⟩
      ·rw [if_neg c8] at H
       have c8b0 : decide (t121 < 1) = false := decide_eq_false c8
       clear c8
       have H' := Aside0.mk H
       clear H
       have p6 : 0 ≤ (x3_1 : Int) := of_decide_eq_true Z10
       have q6 : x3_1 < (a0.size : Int) := of_decide_eq_true Z10
       have hx6 := bt_at a0 x3_1
       replace p6 := eq_true p6
       replace q6 := eq_true q6
       go_wp2_with (first | ((with_reducible refine gate_callee (f := 132) rfl ?_); refine goesL_ (some 17) rfl rfl Try.func132 Z0 rfl #[.int .u8 (bt a0 x3_1)] rfl Z9 ?_; (with_reducible refine (spec_LetterOf.calls k1 (bt a0 x3_1) t121 _ A7.out).mono ?_); rintro e w' ⟨rfl, ⟨nd, rfl⟩⟩; refine ⟨_, rfl, ?_⟩))
       go_roundg k1
       case measure => have := HK1.out; omega
       case rel => exact ⟨(wrap64 (x3_1 + 1)), Z2, H', ⟨Z11⟩, Z3⟩
     ·rw [if_neg c5] at H
      exact absurd H (by simp)
    ·rw [if_neg c4] at H
     have c4b0 : decide (x3_1 < (a0.size : Int)) = false := decide_eq_false c4
     clear c4
     obtain rfl := Option.some.inj H
     go_wp2
     go_ret
     exact ⟨Z2, Z3⟩
 ·replace c3 := Bool.eq_false_iff.mpr c3
  subst c3
  have H1 : (some false) = some r := by rw [if_neg (show ¬ (false = true) by decide)] at H; exact H
  clear H
  have H := H1
  clear H1
  obtain rfl := Option.some.inj H
  go_enter Try.func125, Try.ntmps125
  go_wp2_with (first | ((with_reducible refine gate_callee (f := 68) rfl ?_); refine goesL_ (some 6) rfl rfl Try.func68 Z0 rfl #[.int .i64 (a0.size : Int), .int .i64 1, .int .i64 24] rfl Z9 ?_; (with_reducible refine (spec_l01In.calls (a0.size : Int) 1 24 false _ A2.out).mono ?_); rintro e w' ⟨rfl, ⟨nd, rfl⟩⟩; refine ⟨_, rfl, ?_⟩))
  go_ret
  exact ⟨Z2, Z3⟩

/-! ### spec_WidthOf: function 128 -/
def spec_WidthOf.f (a0 : Int) : Option (Int) := (spec_l01In.f a0 0 7).bind fun t122 => (if t122 = true then (some 4) else ((spec_l01In.f a0 8 15).bind fun t123 => (if t123 = true then (some 5) else ((spec_l01In.f a0 16 47).bind fun t124 => (if t124 = true then (some 7) else (some 0))))))
set_option maxHeartbeats 8000000 in
set_option maxRecDepth 100000 in
theorem spec_WidthOf.calls (a0 : Int) (r : Int) (w : World) (h : spec_WidthOf.f a0 = some r) :
  Calls Try.prog 128 #[.int .i64 a0] w fun e w' => e = .returned (.int .i64 r) ∧ Drawn0 w w' := by
 have H : ((spec_l01In.f a0 0 7).bind fun t122 => (if t122 = true then (some 4) else ((spec_l01In.f a0 8 15).bind fun t123 => (if t123 = true then (some 5) else ((spec_l01In.f a0 16 47).bind fun t124 => (if t124 = true then (some 7) else (some 0))))))) = some r := h
 clear h
 replace H := Option.bind_eq_some_iff.mp H
 obtain ⟨t122, A20, H⟩ := H
 replace H : (if t122 = true then (some 4) else ((spec_l01In.f a0 8 15).bind fun t123 => (if t123 = true then (some 5) else ((spec_l01In.f a0 16 47).bind fun t124 => (if t124 = true then (some 7) else (some 0)))))) = some r := H
 have A2 := Aside0.mk A20
 clear A20
 by_cases c3 : t122 = true
 ·subst c3
  have H1 : (some 4) = some r := Z4
  clear H
  have H := H1
  clear H1
  obtain rfl := Option.some.inj H
  go_enter Try.func128, Try.ntmps128
  go_wp2_with (first | ((with_reducible refine gate_callee (f := 68) rfl ?_); refine goesL_ (some 5) rfl rfl Try.func68 Z0 rfl #[.int .i64 a0, .int .i64 0, .int .i64 7] rfl Z9 ?_; (with_reducible refine (spec_l01In.calls a0 0 7 true _ A2.out).mono ?_); rintro e w' ⟨rfl, ⟨nd, rfl⟩⟩; refine ⟨_, rfl, ?_⟩))
  go_ret
  exact ⟨Z2, Z3⟩
 ·replace c3 := Bool.eq_false_iff.mpr c3
  subst c3
  have H1 : ((spec_l01In.f a0 8 15).bind fun t123 => (if t123 = true then (some 5) else ((spec_l01In.f a0 16 47).bind fun t124 => (if t124 = true then (some 7) else (some 0))))) = some r := by rw [if_neg (show ¬ (false = true) by decide)] at H; exact H
  clear H
  have H := H1
  clear H1
  replace H := Option.bind_eq_some_iff.mp H
  obtain ⟨t123, A40, H⟩ := H
  replace H : (if t123 = true then (some 5) else ((spec_l01In.f a0 16 47).bind fun t124 => (if t124 = true then (some 7) else (some 0)))) = some r := H
  have A4 := Aside0.mk A40
  clear A40
  by_cases c5 : t123 = true
  ·subst c5
   have H1 : (some 5) = some r := Z4
   clear H
   have H := H1
   clear H1
   obtain rfl := Option.some.inj H
   go_enter Try.func128, Try.ntmps128
   go_wp2_with (first | ((with_reducible refine gate_callee (f := 68) rfl ?_); refine goesL_ (some 5) rfl rfl Try.func68 Z0 rfl #[.int .i64 a0, .int .i64 0, .int .i64 7] rfl Z9 ?_; (with_reducible refine (spec_l01In.calls a0 0 7 false _ A2.out).mono ?_); rintro e w' ⟨rfl, ⟨nd, rfl⟩⟩; refine ⟨_, rfl, ?_⟩) | ((with_reducible refine gate_callee (f := 68) rfl ?_); refine goesL_ (some 8) rfl rfl Try.func68 Z0 rfl #[.int .i64 a0, .int .i64 8, .int .i64 15] rfl Z9 ?_; (with_reducible refine (spec_l01In.calls a0 8 15 true _ A4.out).mono ?_); rintro e w' ⟨rfl, ⟨nd, rfl⟩⟩; refine ⟨_, rfl, ?_⟩))
   go_ret
   exact ⟨Z2, Z3⟩
  ·replace c5 := Bool.eq_false_iff.mpr c5
   subst c5
   have H1 : ((spec_l01In.f a0 16 47).bind fun t124 => (if t124 = true then (some 7) else (some 0))) = some r := by rw [if_neg (show ¬ (false = true) by decide)] at H; exact H
   clear H
   have H := H1
   clear H1
   replace H := Option.bind_eq_some_iff.mp H
   obtain ⟨t124, A60, H⟩ := H
   replace H : (if t124 = true then (some 7) else (some 0)) = some r := H
   have A6 := Aside0.mk A60
   clear A60
   by_cases c7 : t124 = true
   ·subst c7
    have H1 : (some 7) = some r := Z4
    clear H
    have H := H1
    clear H1
    obtain rfl := Option.some.inj H
    go_enter Try.func128, Try.ntmps128
    go_wp2_with (first | ((with_reducible refine gate_callee (f := 68) rfl ?_); refine goesL_ (some 5) rfl rfl Try.func68 Z0 rfl #[.int .i64 a0, .int .i64 0, .int .i64 7] rfl Z9 ?_; (with_reducible refine (spec_l01In.calls a0 0 7 false _ A2.out).mono ?_); rintro e w' ⟨rfl, ⟨nd, rfl⟩⟩; refine ⟨_, rfl, ?_⟩) | ((with_reducible refine gate_callee (f := 68) rfl ?_); refine goesL_ (some 8) rfl rfl Try.func68 Z0 rfl #[.int .i64 a0, .int .i64 8, .int .i64 15] rfl Z9 ?_; (with_reducible refine (spec_l01In.calls a0 8 15 false _ A4.out).mono ?_); rintro e w' ⟨rfl, ⟨nd, rfl⟩⟩; refine ⟨_, rfl, ?_⟩) | ((with_reducible refine gate_callee (f := 68) rfl ?_); refine goesL_ (some 11) rfl rfl Try.func68 Z0 rfl #[.int .i64 a0, .int .i64 16, .int .i64 47] rfl Z9 ?_; (with_reducible refine (spec_l01In.calls a0 16 47 true _ A6.out).mono ?_); rintro e w' ⟨rfl, ⟨nd, rfl⟩⟩; refine ⟨_, rfl, ?_⟩))
    go_ret
    exact ⟨Z2, Z3⟩
   ·replace c7 := Bool.eq_false_iff.mpr c7
    subst c7
    have H1 : (some 0) = some r := by rw [if_neg (show ¬ (false = true) by decide)] at H; exact H
    clear H
    have H := H1
    clear H1
    obtain rfl := Option.some.inj H
    go_enter Try.func128, Try.ntmps128
    go_wp2_with (first | ((with_reducible refine gate_callee (f := 68) rfl ?_); refine goesL_ (some 5) rfl rfl Try.func68 Z0 rfl #[.int .i64 a0, .int .i64 0, .int .i64 7] rfl Z9 ?_; (with_reducible refine (spec_l01In.calls a0 0 7 false _ A2.out).mono ?_); rintro e w' ⟨rfl, ⟨nd, rfl⟩⟩; refine ⟨_, rfl, ?_⟩) | ((with_reducible refine gate_callee (f := 68) rfl ?_); refine goesL_ (some 8) rfl rfl Try.func68 Z0 rfl #[.int .i64 a0, .int .i64 8, .int .i64 15] rfl Z9 ?_; (with_reducible refine (spec_l01In.calls a0 8 15 false _ A4.out).mono ?_); rintro e w' ⟨rfl, ⟨nd, rfl⟩⟩; refine ⟨_, rfl, ?_⟩) | ((with_reducible refine gate_callee (f := 68) rfl ?_); refine goesL_ (some 11) rfl rfl Try.func68 Z0 rfl #[.int .i64 a0, .int .i64 16, .int .i64 47] rfl Z9 ?_; (with_reducible refine (spec_l01In.calls a0 16 47 false _ A6.out).mono ?_); rintro e w' ⟨rfl, ⟨nd, rfl⟩⟩; refine ⟨_, rfl, ?_⟩))
    go_ret
    exact ⟨Z2, Z3⟩

/-! ### spec_BitsOf: function 129 -/
def spec_BitsOf.f (a0 : Int) : Option (Int) := (spec_WidthOf.f a0).bind fun t125 => (if t125 = 4 then (some ((a0) % 4294967296)) else (if t125 = 5 then (some ((wrap64 (a0 + 8)) % 4294967296)) else (if t125 = 7 then (some ((wrap64 (a0 + 80)) % 4294967296)) else (some 0))))
set_option maxHeartbeats 8000000 in
set_option maxRecDepth 100000 in
theorem spec_BitsOf.calls (a0 : Int) (r : Int) (w : World) (h : spec_BitsOf.f a0 = some r) :
  Calls Try.prog 129 #[.int .i64 a0] w fun e w' => e = .returned (.int .u32 r) ∧ Drawn0 w w' := by
 have H : ((spec_WidthOf.f a0).bind fun t125 => (if t125 = 4 then (some ((a0) % 4294967296)) else (if t125 = 5 then (some ((wrap64 (a0 + 8)) % 4294967296)) else (if t125 = 7 then (some ((wrap64 (a0 + 80)) % 4294967296)) else (some 0))))) = some r := h
 clear h
 replace H := Option.bind_eq_some_iff.mp H
 obtain ⟨t125, A20, H⟩ := H
 replace H : (if t125 = 4 then (some ((a0) % 4294967296)) else (if t125 = 5 then (some ((wrap64 (a0 + 8)) % 4294967296)) else (if t125 = 7 then (some ((wrap64 (a0 + 80)) % 4294967296)) else (some 0)))) = some r := H
 have A2 := Aside0.mk A20
 clear A20
 by_cases c3 : t125 = 4
 ·rw [if_pos c3] at H
  have c3b0 : (t125 == 4) = true := beq_iff_eq.mpr c3
  have c3b1 : (t125 != 4) = false := bne_eq_false_iff_eq.mpr c3
  clear c3
  obtain rfl := Option.some.inj H
  go_enter Try.func129, Try.ntmps129
  go_wp2_with (first | ((with_reducible refine gate_callee (f := 128) rfl ?_); refine goesL_ (some 4) rfl rfl Try.func128 Z0 rfl #[.int .i64 a0] rfl Z9 ?_; (with_reducible refine (spec_WidthOf.calls a0 t125 _ A2.out).mono ?_); rintro e w' ⟨rfl, ⟨nd, rfl⟩⟩; refine ⟨_, rfl, ?_⟩))
  go_ret
  exact ⟨Z2, Z3⟩
 ·rw [if_neg c3] at H
  have c3b0 : (t125 == 4) = false := beq_eq_false_iff_ne.mpr c3
  have c3b1 : (t125 != 4) = true := bne_iff_ne.mpr c3
  by_cases c4 : t125 = 5
  ·rw [if_pos c4] at H
   have c4b0 : (t125 == 5) = true := beq_iff_eq.mpr c4
   have c4b1 : (t125 != 5) = false := bne_eq_false_iff_eq.mpr c4
   clear c4
   obtain rfl := Option.some.inj H
   go_enter Try.func129, Try.ntmps129
   go_wp2_with (first | ((with_reducible refine gate_callee (f := 128) rfl ?_); refine goesL_ (some 4) rfl rfl Try.func128 Z0 rfl #[.int .i64 a0] rfl Z9 ?_; (with_reducible refine (spec_WidthOf.calls a0 t125 _ A2.out).mono ?_); rintro e w' ⟨rfl, ⟨nd, rfl⟩⟩; refine ⟨_, rfl, ?_⟩))
   go_ret
   exact ⟨Z2, Z3⟩
  ·rw [if_neg c4] at H
   have c4b0 : (t125 == 5) = false := beq_eq_false_iff_ne.mpr c4
   have c4b1 : (t125 != 5) = true := bne_iff_ne.mpr c4
   by_cases c5 : t125 = 7
   ·rw [if_pos c5] at H
    have c5b0 : (t125 == 7) = true := beq_iff_eq.mpr c5
    have c5b1 : (t125 != 7) = false := bne_eq_false_iff_eq.mpr c5
    clear c5
    obtain rfl := Option.some.inj H
    go_enter Try.func129, Try.ntmps129
    go_wp2_with (first | ((with_reducible refine gate_callee (f := 128) rfl ?_); refine goesL_ (some 4) rfl rfl Try.func128 Z0 rfl #[.int .i64 a0] rfl Z9 ?_; (with_reducible refine (spec_WidthOf.calls a0 t125 _ A2.out).mono ?_); rintro e w' ⟨rfl, ⟨nd, rfl⟩⟩; refine ⟨_, rfl, ?_⟩))
    go_ret
    exact ⟨Z2, Z3⟩
   ·rw [if_neg c5] at H
    have c5b0 : (t125 == 7) = false := beq_eq_false_iff_ne.mpr c5
    have c5b1 : (t125 != 7) = true := bne_iff_ne.mpr c5
    obtain rfl := Option.some.inj H
    go_enter Try.func129, Try.ntmps129
    go_wp2_with (first | ((with_reducible refine gate_callee (f := 128) rfl ?_); refine goesL_ (some 4) rfl rfl Try.func128 Z0 rfl #[.int .i64 a0] rfl Z9 ?_; (with_reducible refine (spec_WidthOf.calls a0 t125 _ A2.out).mono ?_); rintro e w' ⟨rfl, ⟨nd, rfl⟩⟩; refine ⟨_, rfl, ?_⟩))
    go_ret
    exact ⟨Z2, Z3⟩

/-! ### spec_l03One: function 127 -/
def spec_l03One.l0 : Nat → ByteArray → Int → Int → Int → Option (Int × Int)
 | 0, _, _, _, _ => none
 | k + 1, x0, x4, x5, x6 => if x6 < (x0.size : Int) then (if 0 ≤ x6 then ((spec_LetterOf.f k (bt x0 x6)).bind fun t126 => ((spec_WidthOf.f t126).bind fun t127 => (if t127 > x5 then (some ((x4) % 4294967296, x6)) else ((spec_BitsOf.f t126).bind fun t128 => (if 0 ≤ (IntKind.u64.wrap (wrap64 (x5 - t127))) then (spec_l03One.l0 k x0 (wrap64 (x4 + (shl .i64 (wrap64 (t128)) (IntKind.u64.wrap (wrap64 (x5 - t127)))))) (wrap64 (x5 - t127)) (wrap64 (x6 + 1))) else (none)))))) else (none)) else (some ((x4) % 4294967296, x6))
def spec_l03One.f (k : Nat) (a0 : ByteArray) : Option (Int × Int) := spec_l03One.l0 k a0 0 28 0
theorem spec_l03One.mono_l : ∀ k, (∀ y0 y1 y2 y3, LeO (spec_l03One.l0 k y0 y1 y2 y3) (spec_l03One.l0 (k + 1) y0 y1 y2 y3))
 | 0 => fun _ _ _ _ r h => by simp [spec_l03One.l0] at h
 | k + 1 => by
  have ih0 := spec_l03One.mono_l k
  ·intro y0 y1 y2 y3
   unfold spec_l03One.l0
   repeat' first
   | (with_reducible exact ih0 _ _ _ _)
   | (with_reducible exact spec_LetterOf.mono _ _)
   | (with_reducible exact LeO.refl _)
   | (with_reducible exact LeO.none _)
   | (with_reducible refine LeO.ite ?_ ?_)
   | (with_reducible refine LeO.bind ?_ (fun _ => ?_))
   | exact ih0 _ _ _ _
   | exact spec_LetterOf.mono _ _
   | exact LeO.none _
   | refine LeO.ite ?_ ?_
   | refine LeO.bind ?_ (fun _ => ?_)
theorem spec_l03One.mono : ∀ a0 k, LeO (spec_l03One.f k a0) (spec_l03One.f (k + 1) a0) := by
 intro a0 k
 have ih0 := spec_l03One.mono_l k
 unfold spec_l03One.f
 repeat' first
   | (with_reducible exact ih0 _ _ _ _)
   | (with_reducible exact spec_LetterOf.mono _ _)
   | (with_reducible exact LeO.refl _)
   | (with_reducible exact LeO.none _)
   | (with_reducible refine LeO.ite ?_ ?_)
   | (with_reducible refine LeO.bind ?_ (fun _ => ?_))
   | exact ih0 _ _ _ _
   | exact spec_LetterOf.mono _ _
   | exact LeO.none _
   | refine LeO.ite ?_ ?_
   | refine LeO.bind ?_ (fun _ => ?_)
set_option maxHeartbeats 8000000 in
set_option maxRecDepth 100000 in
theorem spec_l03One.calls (k : Nat) (a0 : ByteArray) (r1 : Int) (r2 : Int) (w : World) (h : spec_l03One.f k a0 = some (r1, r2)) :
  Calls Try.prog 127 #[.string a0] w fun e w' => e = .returned (.tuple #[.int .u32 r1, .int .i64 r2]) ∧ Drawn0 w w' := by
 have H : (spec_l03One.l0 k a0 0 28 0) = some (r1, r2) := h
 clear h
 have H' := Aside0.mk H
 clear H
 go_enter Try.func127, Try.ntmps127
 go_wp2
 go_loopg [4, 5, 6] k (fun kq v4 v5 v6 w' => ∃ (x4_1 : Int) (x5_1 : Int) (x6_1 : Int), v4 = .int .i64 x4_1 ∧ v5 = .int .i64 x5_1 ∧ v6 = .int .i64 x6_1 ∧ Aside0 (spec_l03One.l0 kq a0 x4_1 x5_1 x6_1 = some (r1, r2)) ∧ Aside0 (kq ≤ k) ∧ Drawn0 w w')
 case atStart => exact ⟨(0), (28), (0), Z2, Z2, Z2, H', ⟨Nat.le_refl _⟩, Z3⟩
 case round =>
  clear H'
  try clear c1
  obtain ⟨x4_1, x5_1, x6_1, rfl, rfl, rfl, HA, HK1, ⟨m1, rfl⟩⟩ := hrel
  cases gk with
  | zero => exact absurd HA.out (by simp [spec_l03One.l0])
  | succ k1 =>
   have H := HA.out
   clear HA
   simp only [spec_l03One.l0] at H
   by_cases c2 : x6_1 < (a0.size : Int)
   ·rw [if_pos c2] at H
    have c2b0 : decide (x6_1 < (a0.size : Int)) = true := decide_eq_true c2
    clear c2
    by_cases c3 : 0 ≤ x6_1
    ·rw [if_pos c3] at H
     have c3b0 : decide (0 ≤ x6_1) = true := decide_eq_true c3
     clear c3
     replace H := Option.bind_eq_some_iff.mp H
     obtain ⟨t126, A50, H⟩ := H
     replace H : ((spec_WidthOf.f t126).bind fun t127 => (if t127 > x5_1 then (some ((x4_1) % 4294967296, x6_1)) else ((spec_BitsOf.f t126).bind fun t128 => (if 0 ≤ (IntKind.u64.wrap (wrap64 (x5_1 - t127))) then (spec_l03One.l0 k1 a0 (wrap64 (x4_1 + (shl .i64 (wrap64 (t128)) (IntKind.u64.wrap (wrap64 (x5_1 - t127)))))) (wrap64 (x5_1 - t127)) (wrap64 (x6_1 + 1))) else (none))))) = some (r1, r2) := H
     have A5 := Aside0.mk A50
     clear A50
     replace H := Option.bind_eq_some_iff.mp H
     obtain ⟨t127, A60, H⟩ := H
     replace H : (if t127 > x5_1 then (some ((x4_1) % 4294967296, x6_1)) else ((spec_BitsOf.f t126).bind fun t128 => (if 0 ≤ (IntKind.u64.wrap (wrap64 (x5_1 - t127))) then (spec_l03One.l0 k1 a0 (wrap64 (x4_1 + (shl .i64 (wrap64 (t128)) (IntKind.u64.wrap (wrap64 (x5_1 - t127)))))) (wrap64 (x5_1 - t127)) (wrap64 (x6_1 + 1))) else (none)))) = some (r1, r2) := H
     have A6 := Aside0.mk A60
     clear A60
     by_cases c7 : t127 > x5_1
     ·rw [if_pos c7] at H
      have c7b0 : decide (x5_1 < t127) = true := decide_eq_true c7
      clear c7
      simp only [Option.some.injEq, Prod.mk.injEq] at H
      obtain ⟨rfl, rfl⟩ := H
      have p4 : 0 ≤ (x6_1 : Int) := of_decide_eq_true Z10
      have q4 : x6_1 < (a0.size : Int) := of_decide_eq_true Z10
      have hx4 := bt_at a0 x6_1
      replace p4 := eq_true p4
      replace q4 := eq_true q4
      go_wp2_with (first | ((with_reducible refine gate_callee (f := 132) rfl ?_); refine goesL_ (some 16) rfl rfl Try.func132 Z0 rfl #[.int .u8 (bt a0 x6_1)] rfl Z9 ?_; (with_reducible refine (spec_LetterOf.calls k1 (bt a0 x6_1) t126 _ A5.out).mono ?_); rintro e w' ⟨rfl, ⟨nd, rfl⟩⟩; refine ⟨_, rfl, ?_⟩) | ((with_reducible refine gate_callee (f := 128) rfl ?_); refine goesL_ (some 18) rfl rfl Try.func128 Z0 rfl #[.int .i64 t126] rfl Z9 ?_; (with_reducible refine (spec_WidthOf.calls t126 t127 _ A6.out).mono ?_); rintro e w' ⟨rfl, ⟨nd, rfl⟩⟩; refine ⟨_, rfl, ?_⟩))
      go_ret2
      exact ⟨Z2, Z3⟩
     ·rw [if_neg c7] at H
      have c7b0 : decide (x5_1 < t127) = false := decide_eq_false c7
      clear c7
      replace H := Option.bind_eq_some_iff.mp H
      obtain ⟨t128, A80, H⟩ := H
      replace H : (if 0 ≤ (IntKind.u64.wrap (wrap64 (x5_1 - t127))) then (spec_l03One.l0 k1 a0 (wrap64 (x4_1 + (shl .i64 (wrap64 (t128)) (IntKind.u64.wrap (wrap64 (x5_1 - t127)))))) (wrap64 (x5_1 - t127)) (wrap64 (x6_1 + 1))) else (none)) = some (r1, r2) := H
      have A8 := Aside0.mk A80
      clear A80
      obtain ⟨ji9, hji9⟩ : ∃ j_ : Int, (IntKind.u64.wrap (wrap64 (x5_1 - t127))) = j_ := ⟨_, rfl⟩
      replace H : (if 0 ≤ (ji9) then (spec_l03One.l0 k1 a0 (wrap64 (x4_1 + (shl .i64 (wrap64 (t128)) (ji9)))) (wrap64 (x5_1 - t127)) (wrap64 (x6_1 + 1))) else (none)) = some (r1, r2) := by first | (rw [hji9] at H; exact H) | (simp only [hji9] at H ⊢; exact H)
      (try rw [hji9] at A5)
      (try rw [hji9] at A6)
      (try rw [hji9] at A8)
      by_cases c10 : 0 ≤ (ji9)
      ·rw [if_pos c10] at H
       have c10b0 := eq_true c10
       have c10b1 : decide (0 ≤ (ji9)) = true := decide_eq_true c10
       clear c10
       obtain ⟨ji11, hji11⟩ : ∃ j_ : Int, (shl .i64 (wrap64 (t128)) (ji9)) = j_ := ⟨_, rfl⟩
       replace H : (spec_l03One.l0 k1 a0 (wrap64 (x4_1 + (ji11))) (wrap64 (x5_1 - t127)) (wrap64 (x6_1 + 1))) = some (r1, r2) := by first | (rw [hji11] at H; exact H) | (simp only [hji11] at H ⊢; exact H)
       (try rw [hji11] at A5)
       (try rw [hji11] at A6)
       (try rw [hji11] at A8)
       have hji11_ : (IntKind.i64.wrap ((wrap64 (t128)) * 2 ^ min (ji9).toNat 64)) = ji11 := hji11
       have hji11z : (ji9) ≤ 64 → (IntKind.i64.wrap ((wrap64 (t128)) * 2 ^ (ji9).toNat)) = ji11 := shl_small hji11
       have hji11y : (wrap64 ((wrap64 (t128)) * 2 ^ min (ji9).toNat 64)) = ji11 := (i64_w _).symm.trans hji11_
       have hji11x : (ji9) ≤ 64 → (wrap64 ((wrap64 (t128)) * 2 ^ (ji9).toNat)) = ji11 := fun h_ => (i64_w _).symm.trans (hji11z h_)
       have H' := Aside0.mk H
       clear H
       have p4 : 0 ≤ (x6_1 : Int) := of_decide_eq_true Z10
       have q4 : x6_1 < (a0.size : Int) := of_decide_eq_true Z10
       have hx4 := bt_at a0 x6_1
       replace p4 := eq_true p4
       replace q4 := eq_true q4
       go_wp2_with (first | ((with_reducible refine gate_callee (f := 132) rfl ?_); refine goesL_ (some 16) rfl rfl Try.func132 Z0 rfl #[.int .u8 (bt a0 x6_1)] rfl Z9 ?_; (with_reducible refine (spec_LetterOf.calls k1 (bt a0 x6_1) t126 _ A5.out).mono ?_); rintro e w' ⟨rfl, ⟨nd, rfl⟩⟩; refine ⟨_, rfl, ?_⟩) | ((with_reducible refine gate_callee (f := 128) rfl ?_); refine goesL_ (some 18) rfl rfl Try.func128 Z0 rfl #[.int .i64 t126] rfl Z9 ?_; (with_reducible refine (spec_WidthOf.calls t126 t127 _ A6.out).mono ?_); rintro e w' ⟨rfl, ⟨nd, rfl⟩⟩; refine ⟨_, rfl, ?_⟩) | ((with_reducible refine gate_callee (f := 129) rfl ?_); refine goesL_ (some 27) rfl rfl Try.func129 Z0 rfl #[.int .i64 t126] rfl Z9 ?_; (with_reducible refine (spec_BitsOf.calls t126 t128 _ A8.out).mono ?_); rintro e w' ⟨rfl, ⟨nd, rfl⟩⟩; refine ⟨_, rfl, ?_⟩))
       go_roundg k1
       case measure => have := HK1.out; omega
       case rel => exact ⟨(wrap64 (x4_1 + (ji11))), (wrap64 (x5_1 - t127)), (wrap64 (x6_1 + 1)), (by first | rfl | (simp; done) | (simp only [← hji11] <;> (first | rfl | simp)) | (simp [*]; done)), Z2, Z2, H', ⟨Z11⟩, Z3⟩
      ·rw [if_neg c10] at H
       exact absurd H (by simp)
    ·rw [if_neg c3] at H
     exact absurd H (by simp)
   ·rw [if_neg c2] at H
    have c2b0 : decide (x6_1 < (a0.size : Int)) = false := decide_eq_false c2
    clear c2
    simp only [Option.some.injEq, Prod.mk.injEq] at H
    obtain ⟨rfl, rfl⟩ := H
    go_wp2
    go_ret2
    exact ⟨Z2, Z3⟩

/-! ### spec_Pack: function 116 -/
def spec_Pack.l0 : Nat → ByteArray → List Int → Option (List Int)
 | 0, _, _ => none
 | k + 1, x0, x3 => if x0.toList = ([] : List UInt8) then (some x3) else ((spec_l03One.f k x0).bind fun bt133 => (if x3.length < 35184372088832 then (if 0 ≤ bt133.2 then (if bt133.2 ≤ (x0.size : Int) then (spec_Pack.l0 k (x0.extract (bt133.2 : Int).toNat x0.size) (x3 ++ [bt133.1])) else (none)) else (none)) else (none)))
def spec_Pack.f (k : Nat) (a0 : ByteArray) : Option (List Int) := (some (([] : List Int) : List Int)).bind fun y129 => ((spec_NameOk.f k a0).bind fun t132 => (if t132 = true then (spec_Pack.l0 k a0 y129) else (some y129)))
theorem spec_Pack.mono_l : ∀ k, (∀ y0 y1, LeO (spec_Pack.l0 k y0 y1) (spec_Pack.l0 (k + 1) y0 y1))
 | 0 => fun _ _ r h => by simp [spec_Pack.l0] at h
 | k + 1 => by
  have ih0 := spec_Pack.mono_l k
  ·intro y0 y1
   unfold spec_Pack.l0
   repeat' first
   | (with_reducible exact ih0 _ _)
   | (with_reducible exact spec_NameOk.mono _ _)
   | (with_reducible exact spec_l03One.mono _ _)
   | (with_reducible exact LeO.refl _)
   | (with_reducible exact LeO.none _)
   | (with_reducible refine LeO.ite ?_ ?_)
   | (with_reducible refine LeO.bind ?_ (fun _ => ?_))
   | exact ih0 _ _
   | exact spec_NameOk.mono _ _
   | exact spec_l03One.mono _ _
   | exact LeO.none _
   | refine LeO.ite ?_ ?_
   | refine LeO.bind ?_ (fun _ => ?_)
theorem spec_Pack.mono : ∀ a0 k, LeO (spec_Pack.f k a0) (spec_Pack.f (k + 1) a0) := by
 intro a0 k
 have ih0 := spec_Pack.mono_l k
 unfold spec_Pack.f
 repeat' first
   | (with_reducible exact ih0 _ _)
   | (with_reducible exact spec_NameOk.mono _ _)
   | (with_reducible exact spec_l03One.mono _ _)
   | (with_reducible exact LeO.refl _)
   | (with_reducible exact LeO.none _)
   | (with_reducible refine LeO.ite ?_ ?_)
   | (with_reducible refine LeO.bind ?_ (fun _ => ?_))
   | exact ih0 _ _
   | exact spec_NameOk.mono _ _
   | exact spec_l03One.mono _ _
   | exact LeO.none _
   | refine LeO.ite ?_ ?_
   | refine LeO.bind ?_ (fun _ => ?_)
set_option maxHeartbeats 8000000 in
set_option maxRecDepth 100000 in
theorem spec_Pack.calls (k : Nat) (a0 : ByteArray) (r : List Int) (w : World) (h : spec_Pack.f k a0 = some r) :
  Calls Try.prog 116 #[.string a0] w fun e w' => ∃ v0_ : Value, e = .returned (v0_) ∧ Kd.R (Kd.int .u32) 47 w' w.heap.size (fun _ => True) v0_ r ∧ Below w.heap.size w w' := by
 have HB := Z (Below.refl w.heap.size w)
 have H : ((some (([] : List Int) : List Int)).bind fun y129 => ((spec_NameOk.f k a0).bind fun t132 => (if t132 = true then (spec_Pack.l0 k a0 y129) else (some y129)))) = some r := h
 clear h
 obtain ⟨y129, hy129⟩ : ∃ y_ : List Int, y_ = (([] : List Int)) := ⟨_, rfl⟩
 replace H : ((spec_NameOk.f k a0).bind fun t132 => (if t132 = true then (spec_Pack.l0 k a0 y129) else (some y129))) = some r := by first | (rw [hy129]; with_reducible exact H) | (have H2_ := (Option.bind_some _ _).symm.trans H; rw [hy129]; with_reducible exact H2_) | (have H2_ := (Option.bind_some _ _).symm.trans H; with_reducible exact H2_) | with_reducible exact H | (rw [hy129]; exact H) | exact H
 have Ny129 := Aside0.mk hy129
 clear hy129
 replace H := Option.bind_eq_some_iff.mp H
 obtain ⟨t132, A20, H⟩ := H
 replace H : (if t132 = true then (spec_Pack.l0 k a0 y129) else (some y129)) = some r := H
 have A2 := Aside0.mk A20
 clear A20
 by_cases c3 : t132 = true
 ·subst c3
  have H1 : (spec_Pack.l0 k a0 y129) = some r := Z4
  clear H
  have H := H1
  clear H1
  have H' := Aside0.mk H
  clear H
  go_enter Try.func116, Try.ntmps116
  go_wp2_with (first | ((with_reducible refine gate_dst (N := 6) rfl ?_); refine Kd.R_lit (Kd.int .u32) _ 47 (by rfl) (N := 6) (by rfl) (xs := ([] : List Int)) (inner := []) (ok := fun _ => True) (okp := fun _ => True) Z5 (Reps.none _ _) (fun _ hk => hk) trivial (Below.refl _ _) (Nat.le_refl _) (by simp) ?_; intro v130 w4 ho5 hb hg_ hnew_; clear hg_ hnew_; (first | rw [← Ny129.out] at ho5 | (simp only [Int.reduceToNat] at ho5; rw [← Ny129.out] at ho5)); have HO131 := Z (Kd.R_lower ho5 (below_size Z47)); replace HB := Z (below_step Z47 hb); clear hb ho5) | ((with_reducible refine gate_callee (f := 125) rfl ?_); refine goesL_ (some 8) rfl rfl Try.func125 Z0 rfl #[.string a0] rfl Z9 ?_; (with_reducible refine (spec_NameOk.calls k a0 true _ A2.out).mono ?_); rintro e w' ⟨rfl, ⟨nd, rfl⟩⟩; refine ⟨_, rfl, ?_⟩))
  go_loopg [0, 3] k (fun kq v0 v3 w' => ∃ (x0_1 : ByteArray) (x3_1 : List Int), v0 = .string x0_1 ∧ Aside0 (spec_Pack.l0 kq x0_1 x3_1 = some r) ∧ Aside0 (kq ≤ k) ∧ Aside0 (Kd.R (Kd.int .u32) 47 w' w.heap.size (fun _ => True) v3 x3_1) ∧ Aside0 (Below w.heap.size w w'))
  case atStart => exact ⟨(a0), (y129), Z2, H', ⟨Nat.le_refl _⟩, ⟨(Z8 HO131)⟩, ⟨Z47⟩⟩
  case round =>
   clear H'
   try clear c1
   try clear p2
   try clear c3
   obtain ⟨x0_1, x3_1, rfl, HA, HK1, HO_3, HB⟩ := hrel
   cases gk with
   | zero => exact absurd HA.out (by simp [spec_Pack.l0])
   | succ k1 =>
    have H := HA.out
    clear HA
    simp only [spec_Pack.l0] at H
    by_cases c6 : x0_1.toList = ([] : List UInt8)
    ·rw [if_pos c6] at H
     have c6b0 : (x0_1.toList == ([] : List UInt8)) = true := beq_iff_eq.mpr c6
     have c6b1 : (x0_1.toList != ([] : List UInt8)) = false := bne_eq_false_iff_eq.mpr c6
     clear c6
     obtain rfl := Option.some.inj H
     go_wp2
     go_ret
     exact ⟨_, Z7, (Z8 HO_3), Z47⟩
    ·rw [if_neg c6] at H
     have c6b0 : (x0_1.toList == ([] : List UInt8)) = false := beq_eq_false_iff_ne.mpr c6
     have c6b1 : (x0_1.toList != ([] : List UInt8)) = true := bne_iff_ne.mpr c6
     replace H := Option.bind_eq_some_iff.mp H
     obtain ⟨⟨t133, t134⟩, A70, H⟩ := H
     replace H : (if x3_1.length < 35184372088832 then (if 0 ≤ t134 then (if t134 ≤ (x0_1.size : Int) then (spec_Pack.l0 k1 (x0_1.extract (t134 : Int).toNat x0_1.size) (x3_1 ++ [t133])) else (none)) else (none)) else (none)) = some r := H
     have A7 := Aside0.mk A70
     clear A70
     by_cases c8 : x3_1.length < 35184372088832
     ·rw [if_pos c8] at H
      have LMc8 := Aside0.mk c8
      clear c8
      obtain ⟨y135, hy135⟩ : ∃ y_ : List Int, y_ = (x3_1 ++ [t133]) := ⟨_, rfl⟩
      replace H : (if 0 ≤ t134 then (if t134 ≤ (x0_1.size : Int) then (spec_Pack.l0 k1 (x0_1.extract (t134 : Int).toNat x0_1.size) y135) else (none)) else (none)) = some r := by first | (rw [hy135]; with_reducible exact H) | (have H2_ := (Option.bind_some _ _).symm.trans H; rw [hy135]; with_reducible exact H2_) | (have H2_ := (Option.bind_some _ _).symm.trans H; with_reducible exact H2_) | with_reducible exact H | (rw [hy135]; exact H) | exact H
      have Ny135 := Aside0.mk hy135
      clear hy135
      by_cases c9 : 0 ≤ t134
      ·rw [if_pos c9] at H
       have c9b0 := eq_true c9
       have c9b1 : decide (0 ≤ t134) = true := decide_eq_true c9
       clear c9
       by_cases c10 : t134 ≤ (x0_1.size : Int)
       ·rw [if_pos c10] at H
        have c10b0 := eq_true c10
        have c10b1 : decide (t134 ≤ (x0_1.size : Int)) = true := decide_eq_true c10
        clear c10
        have H' := Aside0.mk H
        clear H
        go_wp2_with (first | ((with_reducible refine gate_callee (f := 127) rfl ?_); refine goesL_ (some 15) rfl rfl Try.func127 Z0 rfl #[.string x0_1] rfl Z9 ?_; (with_reducible refine (spec_l03One.calls k1 x0_1 t133 t134 _ A7.out).mono ?_); rintro e w' ⟨rfl, ⟨nd, rfl⟩⟩; refine ⟨_, rfl, ?_⟩) | ((with_reducible refine gate_builtin (b := .append) (xs := #[.tmp 18, .tmp 20]) rfl ?_); at_builtin; refine Kd.R_append (Kd.int .u32) (w0 := w) w.heap.size rfl (.tmp 18) (.tmp 20) 24 47 (.int .u32 0) 4 rfl Try.underlying24 info47 rfl (by decide) (by omega) u3 x3_1 t133 [.int .u32 t133] (fun _ => True) (fun _ => False) rfl rfl ?aP (fun _ hk => hk.elim) ?aF ?aO ?aB ?aS ?aL ?_; (case aP => exact rfl); (case aB => exact Z47); (case aF => exact (fun _ _ => trivial)); (case aO => exact (Z8 HO_3)); (case aS => exact (below_size Z47)); (case aL => have := LMc8.out; omega); intro v136 w11 ho hb hg hat; rw [← Ny135.out] at ho; replace HB := Z (hb); have HO137 := Z (ho); clear HO_3; clear ho hb hg hat))
        go_roundg k1
        case measure => have := HK1.out; omega
        case rel => exact ⟨(x0_1.extract (t134 : Int).toNat x0_1.size), (y135), Z2, H', ⟨Z11⟩, ⟨(Z8 HO137)⟩, ⟨Z47⟩⟩
       ·rw [if_neg c10] at H
        exact absurd H (by simp)
      ·rw [if_neg c9] at H
       exact absurd H (by simp)
     ·rw [if_neg c8] at H
      exact absurd H (by simp)
 ·replace c3 := Bool.eq_false_iff.mpr c3
  subst c3
  have H1 : (some y129) = some r := by rw [if_neg (show ¬ (false = true) by decide)] at H; exact H
  clear H
  have H := H1
  clear H1
  obtain rfl := Option.some.inj H
  go_enter Try.func116, Try.ntmps116
  go_wp2_with (first | ((with_reducible refine gate_dst (N := 6) rfl ?_); refine Kd.R_lit (Kd.int .u32) _ 47 (by rfl) (N := 6) (by rfl) (xs := ([] : List Int)) (inner := []) (ok := fun _ => True) (okp := fun _ => True) Z5 (Reps.none _ _) (fun _ hk => hk) trivial (Below.refl _ _) (Nat.le_refl _) (by simp) ?_; intro v130 w12 ho13 hb hg_ hnew_; clear hg_ hnew_; (first | rw [← Ny129.out] at ho13 | (simp only [Int.reduceToNat] at ho13; rw [← Ny129.out] at ho13)); have HO131 := Z (Kd.R_lower ho13 (below_size Z47)); replace HB := Z (below_step Z47 hb); clear hb ho13) | ((with_reducible refine gate_callee (f := 125) rfl ?_); refine goesL_ (some 8) rfl rfl Try.func125 Z0 rfl #[.string a0] rfl Z9 ?_; (with_reducible refine (spec_NameOk.calls k a0 false _ A2.out).mono ?_); rintro e w' ⟨rfl, ⟨nd, rfl⟩⟩; refine ⟨_, rfl, ?_⟩))
  go_ret
  exact ⟨_, Z7, (Z8 HO131), Z47⟩

end Go.Proofs.Ytkkiibjnpkjijaa.QFnColor
