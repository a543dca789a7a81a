/-
Plain functions for the Go functions that a law reaches, each with a proof that the translation's call comes to just that; no conditions beyond those written in each.
-/
import Derived.Test.YtkkiibjnpkjijaaSFnCells
import Derived.Test.YtkkiibjnpkjijaaQFnCellsx2
namespace Go.Proofs.Ytkkiibjnpkjijaa.QFnCells
open Go.RowKit Go.Proofs.YtkkiibjnpkjijaaW.PrintWords Go.Proofs.YtkkiibjnpkjijaaW.PrintLast Go.Proofs.YtkkiibjnpkjijaaW.PrintMore
attribute [local go_sem] max2_int min2_int max_two min_two max_three min_three max_four min_four   -- for this text's walks alone
set_option linter.unusedVariables false
set_option linter.unusedSimpArgs false

/-! ### spec_l03One: function 127 -/
def spec_l03One.l0 : Nat → ByteArray → Int → Int → Int → Option (Int × Int)
 | 0, _, _, _, _ => none
 | k + 1, x0, x4, x5, x6 => if x6 < (x0.size : Int) then (if 0 ≤ x6 then ((spec_LetterOf.f k (bt x0 x6)).bind fun t145 => ((spec_WidthOf.f t145).bind fun t146 => (if t146 > x5 then (some ((x4) % 4294967296, x6)) else ((spec_BitsOf.f t145).bind fun t147 => (if 0 ≤ (IntKind.u64.wrap (wrap64 (x5 - t146))) then (spec_l03One.l0 k x0 (wrap64 (x4 + (shl .i64 (wrap64 (t147)) (IntKind.u64.wrap (wrap64 (x5 - t146)))))) (wrap64 (x5 - t146)) (wrap64 (x6 + 1))) else (none)))))) else (none)) else (some ((x4) % 4294967296, x6))
def spec_l03One.f (k : Nat) (a0 : ByteArray) : Option (Int × Int) := spec_l03One.l0 k a0 0 28 0
theorem spec_l03One.mono_l : ∀ k, (∀ y0 y1 y2 y3, LeO (spec_l03One.l0 k y0 y1 y2 y3) (spec_l03One.l0 (k + 1) y0 y1 y2 y3))
 | 0 => fun _ _ _ _ r h => by simp [spec_l03One.l0] at h
 | k + 1 => by
  have ih0 := spec_l03One.mono_l k
  ·intro y0 y1 y2 y3
   unfold spec_l03One.l0
   repeat' first
   | (with_reducible exact ih0 _ _ _ _)
   | (with_reducible exact spec_LetterOf.mono _ _)
   | (with_reducible exact LeO.refl _)
   | (with_reducible exact LeO.none _)
   | (with_reducible refine LeO.ite ?_ ?_)
   | (with_reducible refine LeO.bind ?_ (fun _ => ?_))
   | exact ih0 _ _ _ _
   | exact spec_LetterOf.mono _ _
   | exact LeO.none _
   | refine LeO.ite ?_ ?_
   | refine LeO.bind ?_ (fun _ => ?_)
theorem spec_l03One.mono : ∀ a0 k, LeO (spec_l03One.f k a0) (spec_l03One.f (k + 1) a0) := by
 intro a0 k
 have ih0 := spec_l03One.mono_l k
 unfold spec_l03One.f
 repeat' first
   | (with_reducible exact ih0 _ _ _ _)
   | (with_reducible exact spec_LetterOf.mono _ _)
   | (with_reducible exact LeO.refl _)
   | (with_reducible exact LeO.none _)
   | (with_reducible refine LeO.ite ?_ ?_)
   | (with_reducible refine LeO.bind ?_ (fun _ => ?_))
   | exact ih0 _ _ _ _
   | exact spec_LetterOf.mono _ _
   | exact LeO.none _
   | refine LeO.ite ?_ ?_
   | refine LeO.bind ?_ (fun _ => ?_)
set_option maxHeartbeats 8000000 in
set_option maxRecDepth 100000 in
theorem spec_l03One.calls (k : Nat) (a0 : ByteArray) (r1 : Int) (r2 : Int) (w : World) (h : spec_l03One.f k a0 = some (r1, r2)) :
  Calls Try.prog 127 #[.string a0] w fun e w' => e = .returned (.tuple #[.int .u32 r1, .int .i64 r2]) ∧ Drawn0 w w' := by
 have H : (spec_l03One.l0 k a0 0 28 0) = some (r1, r2) := h
 clear h
 have H' := Aside0.mk H
 clear H
 go_enter Try.func127, Try.ntmps127
 go_wp2
 go_loopg [4, 5, 6] k (fun kq v4 v5 v6 w' => ∃ (x4_1 : Int) (x5_1 : Int) (x6_1 : Int), v4 = .int .i64 x4_1 ∧ v5 = .int .i64 x5_1 ∧ v6 = .int .i64 x6_1 ∧ Aside0 (spec_l03One.l0 kq a0 x4_1 x5_1 x6_1 = some (r1, r2)) ∧ Aside0 (kq ≤ k) ∧ Drawn0 w w')
 case atStart => exact ⟨(0), (28), (0), Z2, Z2, Z2, H', ⟨Nat.le_refl _⟩, Z3⟩
 case round =>
  clear H'
  try clear c1
  obtain ⟨x4_1, x5_1, x6_1, rfl, rfl, rfl, HA, HK1, ⟨m1, rfl⟩⟩ := hrel
  cases gk with
  | zero => exact absurd HA.out (by simp [spec_l03One.l0])
  | succ k1 =>
   have H := HA.out
   clear HA
   simp only [spec_l03One.l0] at H
   by_cases c2 : x6_1 < (a0.size : Int)
   ·rw [if_pos c2] at H
    have c2b0 : decide (x6_1 < (a0.size : Int)) = true := decide_eq_true c2
    clear c2
    by_cases c3 : 0 ≤ x6_1
    ·rw [if_pos c3] at H
     have c3b0 : decide (0 ≤ x6_1) = true := decide_eq_true c3
     clear c3
     replace H := Option.bind_eq_some_iff.mp H
     obtain ⟨t145, A50, H⟩ := H
     replace H : ((spec_WidthOf.f t145).bind fun t146 => (if t146 > x5_1 then (some ((x4_1) % 4294967296, x6_1)) else ((spec_BitsOf.f t145).bind fun t147 => (if 0 ≤ (IntKind.u64.wrap (wrap64 (x5_1 - t146))) then (spec_l03One.l0 k1 a0 (wrap64 (x4_1 + (shl .i64 (wrap64 (t147)) (IntKind.u64.wrap (wrap64 (x5_1 - t146)))))) (wrap64 (x5_1 - t146)) (wrap64 (x6_1 + 1))) else (none))))) = some (r1, r2) := H
     have A5 := Aside0.mk A50
     clear A50
     replace H := Option.bind_eq_some_iff.mp H
     obtain ⟨t146, A60, H⟩ := H
     replace H : (if t146 > x5_1 then (some ((x4_1) % 4294967296, x6_1)) else ((spec_BitsOf.f t145).bind fun t147 => (if 0 ≤ (IntKind.u64.wrap (wrap64 (x5_1 - t146))) then (spec_l03One.l0 k1 a0 (wrap64 (x4_1 + (shl .i64 (wrap64 (t147)) (IntKind.u64.wrap (wrap64 (x5_1 - t146)))))) (wrap64 (x5_1 - t146)) (wrap64 (x6_1 + 1))) else (none)))) = some (r1, r2) := H
     have A6 := Aside0.mk A60
     clear A60
     by_cases c7 : t146 > x5_1
     ·rw [if_pos c7] at H
      have c7b0 : decide (x5_1 < t146) = true := decide_eq_true c7
      clear c7
      simp only [Option.some.injEq, Prod.mk.injEq] at H
      obtain ⟨rfl, rfl⟩ := H
      have p4 : 0 ≤ (x6_1 : Int) := of_decide_eq_true Z5
      have q4 : x6_1 < (a0.size : Int) := of_decide_eq_true Z5
      have hx4 := bt_at a0 x6_1
      replace p4 := eq_true p4
      replace q4 := eq_true q4
      go_wp2_with (first | ((with_reducible refine gate_callee (f := 132) rfl ?_); refine goesL_ (some 16) rfl rfl Try.func132 Z0 rfl #[.int .u8 (bt a0 x6_1)] rfl Z10 ?_; (with_reducible refine (spec_LetterOf.calls k1 (bt a0 x6_1) t145 _ A5.out).mono ?_); rintro e w' ⟨rfl, ⟨nd, rfl⟩⟩; refine ⟨_, rfl, ?_⟩) | ((with_reducible refine gate_callee (f := 128) rfl ?_); refine goesL_ (some 18) rfl rfl Try.func128 Z0 rfl #[.int .i64 t145] rfl Z10 ?_; (with_reducible refine (spec_WidthOf.calls t145 t146 _ A6.out).mono ?_); rintro e w' ⟨rfl, ⟨nd, rfl⟩⟩; refine ⟨_, rfl, ?_⟩))
      go_ret2
      exact ⟨Z2, Z3⟩
     ·rw [if_neg c7] at H
      have c7b0 : decide (x5_1 < t146) = false := decide_eq_false c7
      clear c7
      replace H := Option.bind_eq_some_iff.mp H
      obtain ⟨t147, A80, H⟩ := H
      replace H : (if 0 ≤ (IntKind.u64.wrap (wrap64 (x5_1 - t146))) then (spec_l03One.l0 k1 a0 (wrap64 (x4_1 + (shl .i64 (wrap64 (t147)) (IntKind.u64.wrap (wrap64 (x5_1 - t146)))))) (wrap64 (x5_1 - t146)) (wrap64 (x6_1 + 1))) else (none)) = some (r1, r2) := H
      have A8 := Aside0.mk A80
      clear A80
      obtain ⟨ji9, hji9⟩ : ∃ j_ : Int, (IntKind.u64.wrap (wrap64 (x5_1 - t146))) = j_ := ⟨_, rfl⟩
      replace H : (if 0 ≤ (ji9) then (spec_l03One.l0 k1 a0 (wrap64 (x4_1 + (shl .i64 (wrap64 (t147)) (ji9)))) (wrap64 (x5_1 - t146)) (wrap64 (x6_1 + 1))) else (none)) = some (r1, r2) := Z13
      (try rw [hji9] at A5)
      (try rw [hji9] at A6)
      (try rw [hji9] at A8)
      by_cases c10 : 0 ≤ (ji9)
      ·rw [if_pos c10] at H
       have c10b0 := eq_true c10
       have c10b1 : decide (0 ≤ (ji9)) = true := decide_eq_true c10
       clear c10
       obtain ⟨ji11, hji11⟩ : ∃ j_ : Int, (shl .i64 (wrap64 (t147)) (ji9)) = j_ := ⟨_, rfl⟩
       replace H : (spec_l03One.l0 k1 a0 (wrap64 (x4_1 + (ji11))) (wrap64 (x5_1 - t146)) (wrap64 (x6_1 + 1))) = some (r1, r2) := Z14
       (try rw [hji11] at A5)
       (try rw [hji11] at A6)
       (try rw [hji11] at A8)
       have hji11_ : (IntKind.i64.wrap ((wrap64 (t147)) * 2 ^ min (ji9).toNat 64)) = ji11 := hji11
       have hji11z : (ji9) ≤ 64 → (IntKind.i64.wrap ((wrap64 (t147)) * 2 ^ (ji9).toNat)) = ji11 := shl_small hji11
       have hji11y : (wrap64 ((wrap64 (t147)) * 2 ^ min (ji9).toNat 64)) = ji11 := (i64_w _).symm.trans hji11_
       have hji11x : (ji9) ≤ 64 → (wrap64 ((wrap64 (t147)) * 2 ^ (ji9).toNat)) = ji11 := fun h_ => (i64_w _).symm.trans (hji11z h_)
       have H' := Aside0.mk H
       clear H
       have p4 : 0 ≤ (x6_1 : Int) := of_decide_eq_true Z5
       have q4 : x6_1 < (a0.size : Int) := of_decide_eq_true Z5
       have hx4 := bt_at a0 x6_1
       replace p4 := eq_true p4
       replace q4 := eq_true q4
       go_wp2_with (first | ((with_reducible refine gate_callee (f := 132) rfl ?_); refine goesL_ (some 16) rfl rfl Try.func132 Z0 rfl #[.int .u8 (bt a0 x6_1)] rfl Z10 ?_; (with_reducible refine (spec_LetterOf.calls k1 (bt a0 x6_1) t145 _ A5.out).mono ?_); rintro e w' ⟨rfl, ⟨nd, rfl⟩⟩; refine ⟨_, rfl, ?_⟩) | ((with_reducible refine gate_callee (f := 128) rfl ?_); refine goesL_ (some 18) rfl rfl Try.func128 Z0 rfl #[.int .i64 t145] rfl Z10 ?_; (with_reducible refine (spec_WidthOf.calls t145 t146 _ A6.out).mono ?_); rintro e w' ⟨rfl, ⟨nd, rfl⟩⟩; refine ⟨_, rfl, ?_⟩) | ((with_reducible refine gate_callee (f := 129) rfl ?_); refine goesL_ (some 27) rfl rfl Try.func129 Z0 rfl #[.int .i64 t145] rfl Z10 ?_; (with_reducible refine (spec_BitsOf.calls t145 t147 _ A8.out).mono ?_); rintro e w' ⟨rfl, ⟨nd, rfl⟩⟩; refine ⟨_, rfl, ?_⟩))
       go_roundg k1
       case measure => have := HK1.out; omega
       case rel => exact ⟨(wrap64 (x4_1 + (ji11))), (wrap64 (x5_1 - t146)), (wrap64 (x6_1 + 1)), (by first | rfl | (simp; done) | (simp only [← hji11] <;> (first | rfl | simp)) | (simp [*]; done)), Z2, Z2, H', ⟨Z6⟩, Z3⟩
      ·rw [if_neg c10] at H
       exact absurd H (by simp)
    ·rw [if_neg c3] at H
     exact absurd H (by simp)
   ·rw [if_neg c2] at H
    have c2b0 : decide (x6_1 < (a0.size : Int)) = false := decide_eq_false c2
    clear c2
    simp only [Option.some.injEq, Prod.mk.injEq] at H
    obtain ⟨rfl, rfl⟩ := H
    go_wp2
    go_ret2
    exact ⟨Z2, Z3⟩

/-! ### spec_Pack: function 116 -/
def spec_Pack.l0 : Nat → ByteArray → List Int → Option (List Int)
 | 0, _, _ => none
 | k + 1, x0, x3 => if x0.toList = ([] : List UInt8) then (some x3) else ((spec_l03One.f k x0).bind fun bt152 => (if x3.length < 35184372088832 then (if 0 ≤ bt152.2 then (if bt152.2 ≤ (x0.size : Int) then (spec_Pack.l0 k (x0.extract (bt152.2 : Int).toNat x0.size) (x3 ++ [bt152.1])) else (none)) else (none)) else (none)))
def spec_Pack.f (k : Nat) (a0 : ByteArray) : Option (List Int) := (some (([] : List Int) : List Int)).bind fun y148 => ((spec_NameOk.f k a0).bind fun t151 => (if t151 = true then (spec_Pack.l0 k a0 y148) else (some y148)))
theorem spec_Pack.mono_l : ∀ k, (∀ y0 y1, LeO (spec_Pack.l0 k y0 y1) (spec_Pack.l0 (k + 1) y0 y1))
 | 0 => fun _ _ r h => by simp [spec_Pack.l0] at h
 | k + 1 => by
  have ih0 := spec_Pack.mono_l k
  ·intro y0 y1
   unfold spec_Pack.l0
   repeat' first
   | (with_reducible exact ih0 _ _)
   | (with_reducible exact spec_NameOk.mono _ _)
   | (with_reducible exact spec_l03One.mono _ _)
   | (with_reducible exact LeO.refl _)
   | (with_reducible exact LeO.none _)
   | (with_reducible refine LeO.ite ?_ ?_)
   | (with_reducible refine LeO.bind ?_ (fun _ => ?_))
   | exact ih0 _ _
   | exact spec_NameOk.mono _ _
   | exact spec_l03One.mono _ _
   | exact LeO.none _
   | refine LeO.ite ?_ ?_
   | refine LeO.bind ?_ (fun _ => ?_)
theorem spec_Pack.mono : ∀ a0 k, LeO (spec_Pack.f k a0) (spec_Pack.f (k + 1) a0) := by
 intro a0 k
 have ih0 := spec_Pack.mono_l k
 unfold spec_Pack.f
 repeat' first
   | (with_reducible exact ih0 _ _)
   | (with_reducible exact spec_NameOk.mono _ _)
   | (with_reducible exact spec_l03One.mono _ _)
   | (with_reducible exact LeO.refl _)
   | (with_reducible exact LeO.none _)
   | (with_reducible refine LeO.ite ?_ ?_)
   | (with_reducible refine LeO.bind ?_ (fun _ => ?_))
   | exact ih0 _ _
   | exact spec_NameOk.mono _ _
   | exact spec_l03One.mono _ _
   | exact LeO.none _
   | refine LeO.ite ?_ ?_
   | refine LeO.bind ?_ (fun _ => ?_)
set_option maxHeartbeats 8000000 in
set_option maxRecDepth 100000 in
theorem spec_Pack.calls (k : Nat) (a0 : ByteArray) (r : List Int) (w : World) (h : spec_Pack.f k a0 = some r) :
  Calls Try.prog 116 #[.string a0] w fun e w' => ∃ v0_ : Value, e = .returned (v0_) ∧ Kd.R (Kd.int .u32) 47 w' w.heap.size (fun _ => True) v0_ r ∧ Below w.heap.size w w' := by
 have HB := Z (Below.refl w.heap.size w)
 have H : ((some (([] : List Int) : List Int)).bind fun y148 => ((spec_NameOk.f k a0).bind fun t151 => (if t151 = true then (spec_Pack.l0 k a0 y148) else (some y148)))) = some r := h
 clear h
 obtain ⟨y148, hy148⟩ : ∃ y_ : List Int, y_ = (([] : List Int)) := ⟨_, rfl⟩
 replace H : ((spec_NameOk.f k a0).bind fun t151 => (if t151 = true then (spec_Pack.l0 k a0 y148) else (some y148))) = some r := by first | (rw [hy148]; with_reducible exact H) | (have H2_ := (Option.bind_some _ _).symm.trans H; rw [hy148]; with_reducible exact H2_) | (have H2_ := (Option.bind_some _ _).symm.trans H; with_reducible exact H2_) | with_reducible exact H | (rw [hy148]; exact H) | exact H
 have Ny148 := Aside0.mk hy148
 clear hy148
 replace H := Option.bind_eq_some_iff.mp H
 obtain ⟨t151, A20, H⟩ := H
 replace H : (if t151 = true then (spec_Pack.l0 k a0 y148) else (some y148)) = some r := H
 have A2 := Aside0.mk A20
 clear A20
 by_cases c3 : t151 = true
 ·subst c3
  have H1 : (spec_Pack.l0 k a0 y148) = some r := Z11
  clear H
  have H := H1
  clear H1
  have H' := Aside0.mk H
  clear H
  go_enter Try.func116, Try.ntmps116
  go_wp2_with (first | ((with_reducible refine gate_dst (N := 6) rfl ?_); refine Kd.R_lit (Kd.int .u32) _ 47 (by rfl) (N := 6) (by rfl) (xs := ([] : List Int)) (inner := []) (ok := fun _ => True) (okp := fun _ => True) Z7 (Reps.none _ _) (fun _ hk => hk) trivial (Below.refl _ _) (Nat.le_refl _) (by simp) ?_; intro v149 w4 ho5 hb hg_ hnew_; clear hg_ hnew_; (first | rw [← Ny148.out] at ho5 | (simp only [Int.reduceToNat] at ho5; rw [← Ny148.out] at ho5)); have HO150 := Z (Kd.R_lower ho5 (below_size Z63)); replace HB := Z (below_step Z63 hb); clear hb ho5) | ((with_reducible refine gate_callee (f := 125) rfl ?_); refine goesL_ (some 8) rfl rfl Try.func125 Z0 rfl #[.string a0] rfl Z10 ?_; (with_reducible refine (spec_NameOk.calls k a0 true _ A2.out).mono ?_); rintro e w' ⟨rfl, ⟨nd, rfl⟩⟩; refine ⟨_, rfl, ?_⟩))
  go_loopg [0, 3] k (fun kq v0 v3 w' => ∃ (x0_1 : ByteArray) (x3_1 : List Int), v0 = .string x0_1 ∧ Aside0 (spec_Pack.l0 kq x0_1 x3_1 = some r) ∧ Aside0 (kq ≤ k) ∧ Aside0 (Kd.R (Kd.int .u32) 47 w' w.heap.size (fun _ => True) v3 x3_1) ∧ Aside0 (Below w.heap.size w w'))
  case atStart => exact ⟨(a0), (y148), Z2, H', ⟨Nat.le_refl _⟩, ⟨(Z12 HO150)⟩, ⟨Z63⟩⟩
  case round =>
   clear H'
   try clear c1
   try clear p2
   try clear c3
   obtain ⟨x0_1, x3_1, rfl, HA, HK1, HO_3, HB⟩ := hrel
   cases gk with
   | zero => exact absurd HA.out (by simp [spec_Pack.l0])
   | succ k1 =>
    have H := HA.out
    clear HA
    simp only [spec_Pack.l0] at H
    by_cases c6 : x0_1.toList = ([] : List UInt8)
    ·rw [if_pos c6] at H
     have c6b0 : (x0_1.toList == ([] : List UInt8)) = true := beq_iff_eq.mpr c6
     have c6b1 : (x0_1.toList != ([] : List UInt8)) = false := bne_eq_false_iff_eq.mpr c6
     clear c6
     obtain rfl := Option.some.inj H
     go_wp2
     go_ret
     exact ⟨_, Z9, (Z12 HO_3), Z63⟩
    ·rw [if_neg c6] at H
     have c6b0 : (x0_1.toList == ([] : List UInt8)) = false := beq_eq_false_iff_ne.mpr c6
     have c6b1 : (x0_1.toList != ([] : List UInt8)) = true := bne_iff_ne.mpr c6
     replace H := Option.bind_eq_some_iff.mp H
     obtain ⟨⟨t152, t153⟩, A70, H⟩ := H
     replace H : (if x3_1.length < 35184372088832 then (if 0 ≤ t153 then (if t153 ≤ (x0_1.size : Int) then (spec_Pack.l0 k1 (x0_1.extract (t153 : Int).toNat x0_1.size) (x3_1 ++ [t152])) else (none)) else (none)) else (none)) = some r := H
     have A7 := Aside0.mk A70
     clear A70
     by_cases c8 : x3_1.length < 35184372088832
     ·rw [if_pos c8] at H
      have LMc8 := Aside0.mk c8
      clear c8
      obtain ⟨y154, hy154⟩ : ∃ y_ : List Int, y_ = (x3_1 ++ [t152]) := ⟨_, rfl⟩
      replace H : (if 0 ≤ t153 then (if t153 ≤ (x0_1.size : Int) then (spec_Pack.l0 k1 (x0_1.extract (t153 : Int).toNat x0_1.size) y154) else (none)) else (none)) = some r := by first | (rw [hy154]; with_reducible exact H) | (have H2_ := (Option.bind_some _ _).symm.trans H; rw [hy154]; with_reducible exact H2_) | (have H2_ := (Option.bind_some _ _).symm.trans H; with_reducible exact H2_) | with_reducible exact H | (rw [hy154]; exact H) | exact H
      have Ny154 := Aside0.mk hy154
      clear hy154
      by_cases c9 : 0 ≤ t153
      ·rw [if_pos c9] at H
       have c9b0 := eq_true c9
       have c9b1 : decide (0 ≤ t153) = true := decide_eq_true c9
       clear c9
       by_cases c10 : t153 ≤ (x0_1.size : Int)
       ·rw [if_pos c10] at H
        have c10b0 := eq_true c10
        have c10b1 : decide (t153 ≤ (x0_1.size : Int)) = true := decide_eq_true c10
        clear c10
        have H' := Aside0.mk H
        clear H
        go_wp2_with (first | ((with_reducible refine gate_callee (f := 127) rfl ?_); refine goesL_ (some 15) rfl rfl Try.func127 Z0 rfl #[.string x0_1] rfl Z10 ?_; (with_reducible refine (spec_l03One.calls k1 x0_1 t152 t153 _ A7.out).mono ?_); rintro e w' ⟨rfl, ⟨nd, rfl⟩⟩; refine ⟨_, rfl, ?_⟩) | ((with_reducible refine gate_builtin (b := .append) (xs := #[.tmp 18, .tmp 20]) rfl ?_); at_builtin; refine Kd.R_append (Kd.int .u32) (w0 := w) w.heap.size rfl (.tmp 18) (.tmp 20) 24 47 (.int .u32 0) 4 rfl Try.underlying24 info47 rfl (by decide) (by omega) u3 x3_1 t152 [.int .u32 t152] (fun _ => True) (fun _ => False) rfl rfl ?aP (fun _ hk => hk.elim) ?aF ?aO ?aB ?aS ?aL ?_; (case aP => exact rfl); (case aB => exact Z63); (case aF => exact (fun _ _ => trivial)); (case aO => exact (Z12 HO_3)); (case aS => exact (below_size Z63)); (case aL => have := LMc8.out; omega); intro v155 w11 ho hb hg hat; rw [← Ny154.out] at ho; replace HB := Z (hb); have HO156 := Z (ho); clear HO_3; clear ho hb hg hat))
        go_roundg k1
        case measure => have := HK1.out; omega
        case rel => exact ⟨(x0_1.extract (t153 : Int).toNat x0_1.size), (y154), Z2, H', ⟨Z6⟩, ⟨(Z12 HO156)⟩, ⟨Z63⟩⟩
       ·rw [if_neg c10] at H
        exact absurd H (by simp)
      ·rw [if_neg c9] at H
       exact absurd H (by simp)
     ·rw [if_neg c8] at H
      exact absurd H (by simp)
 ·replace c3 := Bool.eq_false_iff.mpr c3
  subst c3
  have H1 : (some y148) = some r := by rw [if_neg (show ¬ (false = true) by decide)] at H; exact H
  clear H
  have H := H1
  clear H1
  obtain rfl := Option.some.inj H
  go_enter Try.func116, Try.ntmps116
  go_wp2_with (first | ((with_reducible refine gate_dst (N := 6) rfl ?_); refine Kd.R_lit (Kd.int .u32) _ 47 (by rfl) (N := 6) (by rfl) (xs := ([] : List Int)) (inner := []) (ok := fun _ => True) (okp := fun _ => True) Z7 (Reps.none _ _) (fun _ hk => hk) trivial (Below.refl _ _) (Nat.le_refl _) (by simp) ?_; intro v149 w12 ho13 hb hg_ hnew_; clear hg_ hnew_; (first | rw [← Ny148.out] at ho13 | (simp only [Int.reduceToNat] at ho13; rw [← Ny148.out] at ho13)); have HO150 := Z (Kd.R_lower ho13 (below_size Z63)); replace HB := Z (below_step Z63 hb); clear hb ho13) | ((with_reducible refine gate_callee (f := 125) rfl ?_); refine goesL_ (some 8) rfl rfl Try.func125 Z0 rfl #[.string a0] rfl Z10 ?_; (with_reducible refine (spec_NameOk.calls k a0 false _ A2.out).mono ?_); rintro e w' ⟨rfl, ⟨nd, rfl⟩⟩; refine ⟨_, rfl, ?_⟩))
  go_ret
  exact ⟨_, Z9, (Z12 HO150), Z63⟩

/-! ### spec_l04Word: function 109 -/
def spec_l04Word.l0 : Nat → Int → List Int → Int → Option (List Int)
 | 0, _, _, _ => none
 | k + 1, x0, x5, x6 => if x6 < (x5.length : Int) then (if 0 ≤ x6 then ((some (x5.set (x6 : Int).toNat (((rd x5 x6) * 16) % 4294967296) : List Int)).bind fun y161 => (if x6 = 0 then (spec_l04Word.l0 k x0 (y161.set (x6 : Int).toNat (((rd y161 x6) + x0) % 4294967296)) (wrap64 (x6 + 1))) else (spec_l04Word.l0 k x0 y161 (wrap64 (x6 + 1))))) else (none)) else (some x5)
def spec_l04Word.f (k : Nat) (a0 : Int) (a1 : ByteArray) : Option (List Int) := (spec_Pack.f k a1).bind fun t157 => (spec_l04Word.l0 k a0 t157 0)
theorem spec_l04Word.mono_l : ∀ k, (∀ y0 y1 y2, LeO (spec_l04Word.l0 k y0 y1 y2) (spec_l04Word.l0 (k + 1) y0 y1 y2))
 | 0 => fun _ _ _ r h => by simp [spec_l04Word.l0] at h
 | k + 1 => by
  have ih0 := spec_l04Word.mono_l k
  ·intro y0 y1 y2
   unfold spec_l04Word.l0
   repeat' first
   | (with_reducible exact ih0 _ _ _)
   | (with_reducible exact spec_Pack.mono _ _)
   | (with_reducible exact LeO.refl _)
   | (with_reducible exact LeO.none _)
   | (with_reducible refine LeO.ite ?_ ?_)
   | (with_reducible refine LeO.bind ?_ (fun _ => ?_))
   | exact ih0 _ _ _
   | exact spec_Pack.mono _ _
   | exact LeO.none _
   | refine LeO.ite ?_ ?_
   | refine LeO.bind ?_ (fun _ => ?_)
theorem spec_l04Word.mono : ∀ a0 a1 k, LeO (spec_l04Word.f k a0 a1) (spec_l04Word.f (k + 1) a0 a1) := by
 intro a0 a1 k
 have ih0 := spec_l04Word.mono_l k
 unfold spec_l04Word.f
 repeat' first
   | (with_reducible exact ih0 _ _ _)
   | (with_reducible exact spec_Pack.mono _ _)
   | (with_reducible exact LeO.refl _)
   | (with_reducible exact LeO.none _)
   | (with_reducible refine LeO.ite ?_ ?_)
   | (with_reducible refine LeO.bind ?_ (fun _ => ?_))
   | exact ih0 _ _ _
   | exact spec_Pack.mono _ _
   | exact LeO.none _
   | refine LeO.ite ?_ ?_
   | refine LeO.bind ?_ (fun _ => ?_)
set_option maxHeartbeats 8000000 in
set_option maxRecDepth 100000 in
theorem spec_l04Word.calls (k : Nat) (a0 : Int) (a1 : ByteArray) (r : List Int) (w : World) (h : spec_l04Word.f k a0 a1 = some r) :
  Calls Try.prog 109 #[.int .u32 a0, .string a1] w fun e w' => ∃ v0_ : Value, e = .returned (v0_) ∧ Kd.R (Kd.int .u32) 47 w' w.heap.size (fun _ => True) v0_ r ∧ Below w.heap.size w w' := by
 have HB := Z (Below.refl w.heap.size w)
 have H : ((spec_Pack.f k a1).bind fun t157 => (spec_l04Word.l0 k a0 t157 0)) = some r := h
 clear h
 replace H := Option.bind_eq_some_iff.mp H
 obtain ⟨t157, A30, H⟩ := H
 replace H : (spec_l04Word.l0 k a0 t157 0) = some r := H
 have A3 := Aside0.mk A30
 clear A30
 have H' := Aside0.mk H
 clear H
 go_enter Try.func109, Try.ntmps109
 go_wp2_with (first | ((with_reducible refine gate_callee (f := 116) rfl ?_); refine goesL_ (some 8) rfl rfl Try.func116 Z0 rfl #[.string a1] rfl Z10 ?_; (with_reducible refine (spec_Pack.calls k a1 t157 _ A3.out).mono ?_); rintro e w4 ⟨v158, rfl, ho0, hb⟩; refine ⟨_, rfl, ?_⟩; have HO159 := Z (Kd.R_lower ho0 (below_size Z63)); replace HB := Z (below_step Z63 hb); (try clear hb); (try clear hb2); (try clear hk); (try clear hi); (try clear ho0)))
 go_loopg [6] k (fun kq v6 w' => ∃ (x5_1 : List Int) (x6_1 : Int), v6 = .int .i64 x6_1 ∧ Aside0 (spec_l04Word.l0 kq a0 x5_1 x6_1 = some r) ∧ Aside0 (kq ≤ k) ∧ Aside0 (Kd.R (Kd.int .u32) 47 w' w.heap.size (fun _ => True) v158 x5_1) ∧ Aside0 (Below w.heap.size w w'))
 case atStart => exact ⟨(t157), (0), Z2, H', ⟨Nat.le_refl _⟩, ⟨(Z12 HO159)⟩, ⟨Z63⟩⟩
 case round =>
  clear H'
  try clear c1
  try clear p2
  obtain ⟨x5_1, x6_1, rfl, HA, HK1, HO_5, HB⟩ := hrel
  cases gk with
  | zero => exact absurd HA.out (by simp [spec_l04Word.l0])
  | succ k1 =>
   have H := HA.out
   clear HA
   simp only [spec_l04Word.l0] at H
   by_cases c5 : x6_1 < (x5_1.length : Int)
   ·rw [if_pos c5] at H
    have c5b0 : decide (x6_1 < (x5_1.length : Int)) = true := decide_eq_true c5
    clear c5
    by_cases c6 : 0 ≤ x6_1
    ·rw [if_pos c6] at H
     have c6b0 : decide (0 ≤ x6_1) = true := decide_eq_true c6
     clear c6
     obtain ⟨y161, hy161⟩ : ∃ y_ : List Int, y_ = (x5_1.set (x6_1 : Int).toNat (((rd x5_1 x6_1) * 16) % 4294967296)) := ⟨_, rfl⟩
     replace H : (if x6_1 = 0 then (spec_l04Word.l0 k1 a0 (y161.set (x6_1 : Int).toNat (((rd y161 x6_1) + a0) % 4294967296)) (wrap64 (x6_1 + 1))) else (spec_l04Word.l0 k1 a0 y161 (wrap64 (x6_1 + 1)))) = some r := by first | (rw [hy161]; with_reducible exact H) | (have H2_ := (Option.bind_some _ _).symm.trans H; rw [hy161]; with_reducible exact H2_) | (have H2_ := (Option.bind_some _ _).symm.trans H; with_reducible exact H2_) | with_reducible exact H | (rw [hy161]; exact H) | exact H
     have Ny161 := Aside0.mk hy161
     clear hy161
     by_cases c8 : x6_1 = 0
     ·rw [if_pos c8] at H
      have c8b0 : (x6_1 == 0) = true := beq_iff_eq.mpr c8
      have c8b1 : (x6_1 != 0) = false := bne_eq_false_iff_eq.mpr c8
      clear c8
      obtain ⟨y163, hy163⟩ : ∃ y_ : List Int, y_ = (y161.set (x6_1 : Int).toNat (((rd y161 x6_1) + a0) % 4294967296)) := ⟨_, rfl⟩
      replace H : (spec_l04Word.l0 k1 a0 y163 (wrap64 (x6_1 + 1))) = some r := by first | (rw [hy163]; with_reducible exact H) | (have H2_ := (Option.bind_some _ _).symm.trans H; rw [hy163]; with_reducible exact H2_) | (have H2_ := (Option.bind_some _ _).symm.trans H; with_reducible exact H2_) | with_reducible exact H | (rw [hy163]; exact H) | exact H
      have Ny163 := Aside0.mk hy163
      clear hy163
      have H' := Aside0.mk H
      clear H
      obtain ⟨Ao10, co10, eo10⟩ := Kd.R_slice HO_5.out
      subst eo10
      have p160 : 0 ≤ (x6_1 : Int) := of_decide_eq_true Z5
      have q160 : x6_1 < (x5_1.length : Int) := of_decide_eq_true Z5
      obtain ⟨ad160, e160, hx160_0⟩ := Kd.at_int (Kd.R_reads' HO_5.out).2.2 x6_1 p160 q160
      cases e160
      replace p160 := eq_true p160
      replace q160 := eq_true q160
      have p7 : 0 ≤ (x6_1 : Int) := of_decide_eq_true Z5
      have q7 : (x6_1 : Int) < ((x5_1.length : Int) : Int) := of_decide_eq_true Z5
      obtain ⟨go7, co7, eo7, gb7, gl7, cl7, HG7⟩ := Kd.R_form HO_5.out (by omega)
      (first | cases eo7 | (injection eo7 with ea_ en_ ec_; (first | subst ea_ | (injection ea_ with ea_; subst ea_)); subst ec_; clear en_))
      have GB7 := Aside0.mk gb7
      have GG7 := Aside0.mk HG7
      clear gb7 gl7 HG7
      (first | simp only [add_plain] at hx160_0 | skip)
      obtain ⟨hx7_0, hf7_0⟩ := Kd.R_celln 0 HO_5.out (x6_1 : Int) p7 q7
      replace p7 := eq_true p7
      replace q7 := eq_true q7
      have HP11 := Kd.R_putg HO_5.out (x6_1 : Int) (((rd x5_1 x6_1) * 16) % 4294967296)
      go_wp2_with (first | ((with_reducible refine gate_store (t := 47) (p := 22) rfl ?_); refine store_event (t := 47) (p := 22) (v := ?vo_w12) (w1 := (wr.setCell ⟨go7, (x6_1 : Int).toNat, none⟩ (.int .u32 (((rd x5_1 x6_1) * 16) % 4294967296)))) (by rfl) (by rfl) (by rfl) Z7 ?_; intro w12 hw; have hg : wr.grownBy w12 (some go7) := (by rw [hw]; exact HP11.2); have hp_ : Kd.R (Kd.int .u32) 47 w12 w.heap.size (fun _ => True) (.slice (some ⟨go7, 0, none⟩) x5_1.length co10) y161 := (by rw [hw, Ny161.out]; exact HP11.1); clear HP11; replace HO_5 := Z (hp_); replace HB := Z ((by rw [hw]; exact below_set (HB.out) GB7.out : Below w.heap.size w w12)); clear hg hw hp_; have p162 : 0 ≤ (x6_1 : Int) := of_decide_eq_true Z5; have q162 : x6_1 < (y161.length : Int) := (by have h_ : (x6_1 : Int) < ((x5_1.length : Int) : Int) := of_decide_eq_true Z5; first | (have e_ := (Kd.R_reads' HO_5.out).1; omega) | simpa only [Ny161.out, List.length_set] using h_); have ql162 : ((x6_1 : Int) < ((x5_1.length : Int) : Int)) = True := eq_true (of_decide_eq_true Z5); obtain ⟨ad162, e162, hx162_0⟩ := Kd.at_int (Kd.R_reads' HO_5.out).2.2 x6_1 p162 q162; obtain rfl : (⟨go7, 0, none⟩ : Addr) = ad162 := (by injection e162); (first | simp only [add_plain] at hx162_0 | simp only [add_at] at hx162_0 | simp only [Addr.add, Nat.zero_add] at hx162_0 | skip); replace p162 := eq_true p162; replace q162 := eq_true q162; have p9 : 0 ≤ (x6_1 : Int) := of_decide_eq_true Z5; have q9 : (x6_1 : Int) < ((x5_1.length : Int) : Int) := of_decide_eq_true Z5; obtain ⟨hx9_0, hf9_0⟩ := Kd.R_celln 0 HO_5.out (x6_1 : Int) p9 q9; replace p9 := eq_true p9; replace q9 := eq_true q9; obtain ⟨hy13_, hz13_⟩ := Kd.R_celln 0 HO_5.out (x6_1 : Int) (of_decide_eq_true Z5) (of_decide_eq_true Z5); have HP13 := Kd.R_putg HO_5.out (x6_1 : Int) (((rd y161 x6_1) + a0) % 4294967296)) | ((with_reducible refine gate_store (t := 47) (p := 33) rfl ?_); refine store_event (t := 47) (p := 33) (v := ?vo_w14) (w1 := (w12.setCell ⟨go7, (x6_1 : Int).toNat, none⟩ (.int .u32 (((rd y161 x6_1) + a0) % 4294967296)))) (by rfl) (by rfl) (by rfl) Z7 ?_; intro w14 hw; have hg : w12.grownBy w14 (some go7) := (by rw [hw]; exact HP13.2); have hp_ : Kd.R (Kd.int .u32) 47 w14 w.heap.size (fun _ => True) (.slice (some ⟨go7, 0, none⟩) x5_1.length co10) y163 := (by rw [hw, Ny163.out]; exact HP13.1); clear HP13; replace HO_5 := Z (hp_); replace HB := Z ((by rw [hw]; exact below_set (HB.out) GB7.out : Below w.heap.size w w14)); clear hg hw hp_))
      go_roundg k1
      case measure => have := HK1.out; omega
      case rel => exact ⟨(y163), (wrap64 (x6_1 + 1)), Z2, H', ⟨Z6⟩, ⟨(Z12 HO_5)⟩, ⟨Z63⟩⟩
     ·rw [if_neg c8] at H
      have c8b0 : (x6_1 == 0) = false := beq_eq_false_iff_ne.mpr c8
      have c8b1 : (x6_1 != 0) = true := bne_iff_ne.mpr c8
      have H' := Aside0.mk H
      clear H
      obtain ⟨Ao15, co15, eo15⟩ := Kd.R_slice HO_5.out
      subst eo15
      have p160 : 0 ≤ (x6_1 : Int) := of_decide_eq_true Z5
      have q160 : x6_1 < (x5_1.length : Int) := of_decide_eq_true Z5
      obtain ⟨ad160, e160, hx160_0⟩ := Kd.at_int (Kd.R_reads' HO_5.out).2.2 x6_1 p160 q160
      cases e160
      replace p160 := eq_true p160
      replace q160 := eq_true q160
      have p7 : 0 ≤ (x6_1 : Int) := of_decide_eq_true Z5
      have q7 : (x6_1 : Int) < ((x5_1.length : Int) : Int) := of_decide_eq_true Z5
      obtain ⟨go7, co7, eo7, gb7, gl7, cl7, HG7⟩ := Kd.R_form HO_5.out (by omega)
      (first | cases eo7 | (injection eo7 with ea_ en_ ec_; (first | subst ea_ | (injection ea_ with ea_; subst ea_)); subst ec_; clear en_))
      have GB7 := Aside0.mk gb7
      have GG7 := Aside0.mk HG7
      clear gb7 gl7 HG7
      (first | simp only [add_plain] at hx160_0 | skip)
      obtain ⟨hx7_0, hf7_0⟩ := Kd.R_celln 0 HO_5.out (x6_1 : Int) p7 q7
      replace p7 := eq_true p7
      replace q7 := eq_true q7
      have HP16 := Kd.R_putg HO_5.out (x6_1 : Int) (((rd x5_1 x6_1) * 16) % 4294967296)
      go_wp2_with (first | ((with_reducible refine gate_store (t := 47) (p := 22) rfl ?_); refine store_event (t := 47) (p := 22) (v := ?vo_w17) (w1 := (wr.setCell ⟨go7, (x6_1 : Int).toNat, none⟩ (.int .u32 (((rd x5_1 x6_1) * 16) % 4294967296)))) (by rfl) (by rfl) (by rfl) Z7 ?_; intro w17 hw; have hg : wr.grownBy w17 (some go7) := (by rw [hw]; exact HP16.2); have hp_ : Kd.R (Kd.int .u32) 47 w17 w.heap.size (fun _ => True) (.slice (some ⟨go7, 0, none⟩) x5_1.length co15) y161 := (by rw [hw, Ny161.out]; exact HP16.1); clear HP16; replace HO_5 := Z (hp_); replace HB := Z ((by rw [hw]; exact below_set (HB.out) GB7.out : Below w.heap.size w w17)); clear hg hw hp_))
      go_roundg k1
      case measure => have := HK1.out; omega
      case rel => exact ⟨(y161), (wrap64 (x6_1 + 1)), Z2, H', ⟨Z6⟩, ⟨(Z12 HO_5)⟩, ⟨Z63⟩⟩
    ·rw [if_neg c6] at H
     exact absurd H (by simp)
   ·rw [if_neg c5] at H
    have c5b0 : decide (x6_1 < (x5_1.length : Int)) = false := decide_eq_false c5
    clear c5
    obtain rfl := Option.some.inj H
    obtain ⟨Ao18, co18, eo18⟩ := Kd.R_slice HO_5.out
    subst eo18
    go_wp2
    go_ret
    exact ⟨_, Z9, (Z12 HO_5), Z63⟩

/-! ### spec_l04Tag: function 110 -/
def spec_l04Tag.f (a0 : Int) : Option (Int) := if a0 = 1 then (some 1) else (if a0 = 2 then (some 3) else (if a0 = 3 then (some 4) else (if a0 = 4 then (some 9) else (if a0 = 5 then (some 10) else (if a0 = 6 then (some 11) else (some 0))))))
set_option maxHeartbeats 8000000 in
set_option maxRecDepth 100000 in
theorem spec_l04Tag.calls (a0 : Int) (r : Int) (w : World) (h : spec_l04Tag.f a0 = some r) :
  Calls Try.prog 110 #[.int .i64 a0] w fun e w' => e = .returned (.int .u32 r) ∧ Drawn0 w w' := by
 have H : (if a0 = 1 then (some 1) else (if a0 = 2 then (some 3) else (if a0 = 3 then (some 4) else (if a0 = 4 then (some 9) else (if a0 = 5 then (some 10) else (if a0 = 6 then (some 11) else (some 0))))))) = some r := h
 clear h
 by_cases c2 : a0 = 1
 ·rw [if_pos c2] at H
  have c2b0 : (a0 == 1) = true := beq_iff_eq.mpr c2
  have c2b1 : (a0 != 1) = false := bne_eq_false_iff_eq.mpr c2
  clear c2
  obtain rfl := Option.some.inj H
  go_enter Try.func110, Try.ntmps110
  go_wp2
  go_ret
  exact ⟨Z2, Z3⟩
 ·rw [if_neg c2] at H
  have c2b0 : (a0 == 1) = false := beq_eq_false_iff_ne.mpr c2
  have c2b1 : (a0 != 1) = true := bne_iff_ne.mpr c2
  by_cases c3 : a0 = 2
  ·rw [if_pos c3] at H
   have c3b0 : (a0 == 2) = true := beq_iff_eq.mpr c3
   have c3b1 : (a0 != 2) = false := bne_eq_false_iff_eq.mpr c3
   clear c3
   obtain rfl := Option.some.inj H
   go_enter Try.func110, Try.ntmps110
   go_wp2
   go_ret
   exact ⟨Z2, Z3⟩
  ·rw [if_neg c3] at H
   have c3b0 : (a0 == 2) = false := beq_eq_false_iff_ne.mpr c3
   have c3b1 : (a0 != 2) = true := bne_iff_ne.mpr c3
   by_cases c4 : a0 = 3
   ·rw [if_pos c4] at H
    have c4b0 : (a0 == 3) = true := beq_iff_eq.mpr c4
    have c4b1 : (a0 != 3) = false := bne_eq_false_iff_eq.mpr c4
    clear c4
    obtain rfl := Option.some.inj H
    go_enter Try.func110, Try.ntmps110
    go_wp2
    go_ret
    exact ⟨Z2, Z3⟩
   ·rw [if_neg c4] at H
    have c4b0 : (a0 == 3) = false := beq_eq_false_iff_ne.mpr c4
    have c4b1 : (a0 != 3) = true := bne_iff_ne.mpr c4
    by_cases c5 : a0 = 4
    ·rw [if_pos c5] at H
     have c5b0 : (a0 == 4) = true := beq_iff_eq.mpr c5
     have c5b1 : (a0 != 4) = false := bne_eq_false_iff_eq.mpr c5
     clear c5
     obtain rfl := Option.some.inj H
     go_enter Try.func110, Try.ntmps110
     go_wp2
     go_ret
     exact ⟨Z2, Z3⟩
    ·rw [if_neg c5] at H
     have c5b0 : (a0 == 4) = false := beq_eq_false_iff_ne.mpr c5
     have c5b1 : (a0 != 4) = true := bne_iff_ne.mpr c5
     by_cases c6 : a0 = 5
     ·rw [if_pos c6] at H
      have c6b0 : (a0 == 5) = true := beq_iff_eq.mpr c6
      have c6b1 : (a0 != 5) = false := bne_eq_false_iff_eq.mpr c6
      clear c6
      obtain rfl := Option.some.inj H
      go_enter Try.func110, Try.ntmps110
      go_wp2
      go_ret
      exact ⟨Z2, Z3⟩
     ·rw [if_neg c6] at H
      have c6b0 : (a0 == 5) = false := beq_eq_false_iff_ne.mpr c6
      have c6b1 : (a0 != 5) = true := bne_iff_ne.mpr c6
      by_cases c7 : a0 = 6
      ·rw [if_pos c7] at H
       have c7b0 : (a0 == 6) = true := beq_iff_eq.mpr c7
       have c7b1 : (a0 != 6) = false := bne_eq_false_iff_eq.mpr c7
       clear c7
       obtain rfl := Option.some.inj H
       go_enter Try.func110, Try.ntmps110
       go_wp2
       go_ret
       exact ⟨Z2, Z3⟩
      ·rw [if_neg c7] at H
       have c7b0 : (a0 == 6) = false := beq_eq_false_iff_ne.mpr c7
       have c7b1 : (a0 != 6) = true := bne_iff_ne.mpr c7
       obtain rfl := Option.some.inj H
       go_enter Try.func110, Try.ntmps110
       go_wp2
       go_ret
       exact ⟨Z2, Z3⟩

end Go.Proofs.Ytkkiibjnpkjijaa.QFnCells
