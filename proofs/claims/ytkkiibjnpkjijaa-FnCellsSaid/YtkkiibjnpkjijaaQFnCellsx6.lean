/-
Plain functions for the Go functions that a law reaches, each with a proof that the translation's call comes to just that; no conditions beyond those written in each.
-/
import Derived.Test.YtkkiibjnpkjijaaSFnCells
import Derived.Test.YtkkiibjnpkjijaaQFnCellsx5
namespace Go.Proofs.Ytkkiibjnpkjijaa.QFnCells
open Go.RowKit Go.Proofs.YtkkiibjnpkjijaaW.PrintWords Go.Proofs.YtkkiibjnpkjijaaW.PrintLast Go.Proofs.YtkkiibjnpkjijaaW.PrintMore
attribute [local go_sem] max2_int min2_int max_two min_two max_three min_three max_four min_four   -- for this text's walks alone
set_option linter.unusedVariables false
set_option linter.unusedSimpArgs false

/-! ### impl_NameOk: function 106 -/
def impl_NameOk.l0 : Nat → ByteArray → Int → Int → Option (Bool)
 | 0, _, _, _ => none
 | k + 1, x0, x5, x6 => if x6 < x5 then (if 0 ≤ x6 then (if x6 < (x0.size : Int) then ((impl_LetterOf.f (bt x0 x6)).bind fun t380 => (if t380 < 1 then (some false) else (impl_NameOk.l0 k x0 x5 (wrap64 (x6 + 1))))) else (none)) else (none)) else ((impl_within.f (x0.size : Int) 1 24).bind fun t381 => (some t381))
def impl_NameOk.f (k : Nat) (a0 : ByteArray) : Option (Bool) := impl_NameOk.l0 k a0 (a0.size : Int) 0
theorem impl_NameOk.mono_l : ∀ k, (∀ y0 y1 y2, LeO (impl_NameOk.l0 k y0 y1 y2) (impl_NameOk.l0 (k + 1) y0 y1 y2))
 | 0 => fun _ _ _ r h => by simp [impl_NameOk.l0] at h
 | k + 1 => by
  have ih0 := impl_NameOk.mono_l k
  ·intro y0 y1 y2
   unfold impl_NameOk.l0
   repeat' first
   | (with_reducible exact ih0 _ _ _)
   | (with_reducible exact LeO.refl _)
   | (with_reducible exact LeO.none _)
   | (with_reducible refine LeO.ite ?_ ?_)
   | (with_reducible refine LeO.bind ?_ (fun _ => ?_))
   | exact ih0 _ _ _
   | exact LeO.none _
   | refine LeO.ite ?_ ?_
   | refine LeO.bind ?_ (fun _ => ?_)
theorem impl_NameOk.mono : ∀ a0 k, LeO (impl_NameOk.f k a0) (impl_NameOk.f (k + 1) a0) := by
 intro a0 k
 have ih0 := impl_NameOk.mono_l k
 unfold impl_NameOk.f
 repeat' first
   | (with_reducible exact ih0 _ _ _)
   | (with_reducible exact LeO.refl _)
   | (with_reducible exact LeO.none _)
   | (with_reducible refine LeO.ite ?_ ?_)
   | (with_reducible refine LeO.bind ?_ (fun _ => ?_))
   | exact ih0 _ _ _
   | exact LeO.none _
   | refine LeO.ite ?_ ?_
   | refine LeO.bind ?_ (fun _ => ?_)
set_option maxHeartbeats 8000000 in
set_option maxRecDepth 100000 in
theorem impl_NameOk.calls (k : Nat) (a0 : ByteArray) (r : Bool) (w : World) (h : impl_NameOk.f k a0 = some r) :
  Calls Try.prog 106 #[.string a0] w fun e w' => e = .returned (.bool r) ∧ Drawn0 w w' := by
 have H : (impl_NameOk.l0 k a0 (a0.size : Int) 0) = some r := h
 clear h
 have H' := Aside0.mk H
 clear H
 go_enter Try.func106, Try.ntmps106
 go_wp2
 go_loopg [6] k (fun kq v6 w' => ∃ (x6_1 : Int), v6 = .int .i64 x6_1 ∧ Aside0 (impl_NameOk.l0 kq a0 (a0.size : Int) x6_1 = some r) ∧ Aside0 (kq ≤ k) ∧ Drawn0 w w')
 case atStart => exact ⟨(0), Z2, H', ⟨Nat.le_refl _⟩, Z3⟩
 case round =>
  clear H'
  try clear c1
  obtain ⟨x6_1, rfl, HA, HK1, ⟨m1, rfl⟩⟩ := hrel
  cases gk with
  | zero => exact absurd HA.out (by simp [impl_NameOk.l0])
  | succ k1 =>
   have H := HA.out
   clear HA
   simp only [impl_NameOk.l0] at H
   by_cases c2 : x6_1 < (a0.size : Int)
   ·rw [if_pos c2] at H
    have c2b0 : decide (x6_1 < (a0.size : Int)) = true := decide_eq_true c2
    clear c2
    by_cases c3 : 0 ≤ x6_1
    ·rw [if_pos c3] at H
     have c3b0 : decide (0 ≤ x6_1) = true := decide_eq_true c3
     clear c3
     by_cases c4 : x6_1 < (a0.size : Int)
     ·rw [if_pos c4] at H
      have c4b0 : decide (x6_1 < (a0.size : Int)) = true := decide_eq_true c4
      clear c4
      replace H := Option.bind_eq_some_iff.mp H
      obtain ⟨t380, A60, H⟩ := H
      replace H : (if t380 < 1 then (some false) else (impl_NameOk.l0 k1 a0 (a0.size : Int) (wrap64 (x6_1 + 1)))) = some r := H
      have A6 := Aside0.mk A60
      clear A60
      by_cases c7 : t380 < 1
      ·rw [if_pos c7] at H
       have c7b0 : decide (t380 < 1) = true := decide_eq_true c7
       clear c7
       obtain rfl := Option.some.inj H
       have p5 : 0 ≤ (x6_1 : Int) := of_decide_eq_true Z5
       have q5 : x6_1 < (a0.size : Int) := of_decide_eq_true Z5
       have hx5 := bt_at a0 x6_1
       replace p5 := eq_true p5
       replace q5 := eq_true q5
       go_wp2_with (first | ((with_reducible refine gate_callee (f := 121) rfl ?_); refine goesL_ (some 12) rfl rfl Try.func121 Z0 rfl #[.int .u8 (bt a0 x6_1)] rfl Z10 ?_; (with_reducible refine (impl_LetterOf.calls (bt a0 x6_1) t380 _ A6.out).mono ?_); rintro e w' ⟨rfl, ⟨nd, rfl⟩⟩; refine ⟨_, rfl, ?_⟩))
       go_ret
       exact ⟨Z2, Z3⟩
      ·rw [if_neg c7] at H
       have c7b0 : decide (t380 < 1) = false := decide_eq_false c7
       clear c7
       have H' := Aside0.mk H
       clear H
       have p5 : 0 ≤ (x6_1 : Int) := of_decide_eq_true Z5
       have q5 : x6_1 < (a0.size : Int) := of_decide_eq_true Z5
       have hx5 := bt_at a0 x6_1
       replace p5 := eq_true p5
       replace q5 := eq_true q5
       go_wp2_with (first | ((with_reducible refine gate_callee (f := 121) rfl ?_); refine goesL_ (some 12) rfl rfl Try.func121 Z0 rfl #[.int .u8 (bt a0 x6_1)] rfl Z10 ?_; (with_reducible refine (impl_LetterOf.calls (bt a0 x6_1) t380 _ A6.out).mono ?_); rintro e w' ⟨rfl, ⟨nd, rfl⟩⟩; refine ⟨_, rfl, ?_⟩))
       go_roundg k1
       case measure => have := HK1.out; omega
       case rel => exact ⟨(wrap64 (x6_1 + 1)), Z2, H', ⟨Z6⟩, Z3⟩
     ·rw [if_neg c4] at H
      exact absurd H (by simp)
    ·rw [if_neg c3] at H
     exact absurd H (by simp)
   ·rw [if_neg c2] at H
    have c2b0 : decide (x6_1 < (a0.size : Int)) = false := decide_eq_false c2
    clear c2
    replace H := Option.bind_eq_some_iff.mp H
    obtain ⟨t381, A80, H⟩ := H
    replace H : (some t381) = some r := H
    have A8 := Aside0.mk A80
    clear A80
    obtain rfl := Option.some.inj H
    go_wp2_with (first | ((with_reducible refine gate_callee (f := 103) rfl ?_); refine goesL_ (some 17) rfl rfl Try.func103 Z0 rfl #[.int .i64 (a0.size : Int), .int .i64 1, .int .i64 24] rfl Z10 ?_; (with_reducible refine (impl_within.calls (a0.size : Int) 1 24 t381 _ A8.out).mono ?_); rintro e w' ⟨rfl, ⟨nd, rfl⟩⟩; refine ⟨_, rfl, ?_⟩))
    go_ret
    exact ⟨Z2, Z3⟩

/-! ### impl_WidthOf: function 122 -/
def impl_WidthOf.f (a0 : Int) : Option (Int) := (impl_within.f a0 0 7).bind fun t382 => (if t382 = true then (some 4) else ((impl_within.f a0 8 15).bind fun t383 => (if t383 = true then (some 5) else ((impl_within.f a0 16 47).bind fun t384 => (if t384 = true then (some 7) else (some 0))))))
set_option maxHeartbeats 8000000 in
set_option maxRecDepth 100000 in
theorem impl_WidthOf.calls (a0 : Int) (r : Int) (w : World) (h : impl_WidthOf.f a0 = some r) :
  Calls Try.prog 122 #[.int .i64 a0] w fun e w' => e = .returned (.int .i64 r) ∧ Drawn0 w w' := by
 have H : ((impl_within.f a0 0 7).bind fun t382 => (if t382 = true then (some 4) else ((impl_within.f a0 8 15).bind fun t383 => (if t383 = true then (some 5) else ((impl_within.f a0 16 47).bind fun t384 => (if t384 = true then (some 7) else (some 0))))))) = some r := h
 clear h
 replace H := Option.bind_eq_some_iff.mp H
 obtain ⟨t382, A20, H⟩ := H
 replace H : (if t382 = true then (some 4) else ((impl_within.f a0 8 15).bind fun t383 => (if t383 = true then (some 5) else ((impl_within.f a0 16 47).bind fun t384 => (if t384 = true then (some 7) else (some 0)))))) = some r := H
 have A2 := Aside0.mk A20
 clear A20
 by_cases c3 : t382 = true
 ·subst c3
  have H1 : (some 4) = some r := Z11
  clear H
  have H := H1
  clear H1
  obtain rfl := Option.some.inj H
  go_enter Try.func122, Try.ntmps122
  go_wp2_with (first | ((with_reducible refine gate_callee (f := 103) rfl ?_); refine goesL_ (some 5) rfl rfl Try.func103 Z0 rfl #[.int .i64 a0, .int .i64 0, .int .i64 7] rfl Z10 ?_; (with_reducible refine (impl_within.calls a0 0 7 true _ A2.out).mono ?_); rintro e w' ⟨rfl, ⟨nd, rfl⟩⟩; refine ⟨_, rfl, ?_⟩))
  go_ret
  exact ⟨Z2, Z3⟩
 ·replace c3 := Bool.eq_false_iff.mpr c3
  subst c3
  have H1 : ((impl_within.f a0 8 15).bind fun t383 => (if t383 = true then (some 5) else ((impl_within.f a0 16 47).bind fun t384 => (if t384 = true then (some 7) else (some 0))))) = some r := by rw [if_neg (show ¬ (false = true) by decide)] at H; exact H
  clear H
  have H := H1
  clear H1
  replace H := Option.bind_eq_some_iff.mp H
  obtain ⟨t383, A40, H⟩ := H
  replace H : (if t383 = true then (some 5) else ((impl_within.f a0 16 47).bind fun t384 => (if t384 = true then (some 7) else (some 0)))) = some r := H
  have A4 := Aside0.mk A40
  clear A40
  by_cases c5 : t383 = true
  ·subst c5
   have H1 : (some 5) = some r := Z11
   clear H
   have H := H1
   clear H1
   obtain rfl := Option.some.inj H
   go_enter Try.func122, Try.ntmps122
   go_wp2_with (first | ((with_reducible refine gate_callee (f := 103) rfl ?_); refine goesL_ (some 5) rfl rfl Try.func103 Z0 rfl #[.int .i64 a0, .int .i64 0, .int .i64 7] rfl Z10 ?_; (with_reducible refine (impl_within.calls a0 0 7 false _ A2.out).mono ?_); rintro e w' ⟨rfl, ⟨nd, rfl⟩⟩; refine ⟨_, rfl, ?_⟩) | ((with_reducible refine gate_callee (f := 103) rfl ?_); refine goesL_ (some 8) rfl rfl Try.func103 Z0 rfl #[.int .i64 a0, .int .i64 8, .int .i64 15] rfl Z10 ?_; (with_reducible refine (impl_within.calls a0 8 15 true _ A4.out).mono ?_); rintro e w' ⟨rfl, ⟨nd, rfl⟩⟩; refine ⟨_, rfl, ?_⟩))
   go_ret
   exact ⟨Z2, Z3⟩
  ·replace c5 := Bool.eq_false_iff.mpr c5
   subst c5
   have H1 : ((impl_within.f a0 16 47).bind fun t384 => (if t384 = true then (some 7) else (some 0))) = some r := by rw [if_neg (show ¬ (false = true) by decide)] at H; exact H
   clear H
   have H := H1
   clear H1
   replace H := Option.bind_eq_some_iff.mp H
   obtain ⟨t384, A60, H⟩ := H
   replace H : (if t384 = true then (some 7) else (some 0)) = some r := H
   have A6 := Aside0.mk A60
   clear A60
   by_cases c7 : t384 = true
   ·subst c7
    have H1 : (some 7) = some r := Z11
    clear H
    have H := H1
    clear H1
    obtain rfl := Option.some.inj H
    go_enter Try.func122, Try.ntmps122
    go_wp2_with (first | ((with_reducible refine gate_callee (f := 103) rfl ?_); refine goesL_ (some 5) rfl rfl Try.func103 Z0 rfl #[.int .i64 a0, .int .i64 0, .int .i64 7] rfl Z10 ?_; (with_reducible refine (impl_within.calls a0 0 7 false _ A2.out).mono ?_); rintro e w' ⟨rfl, ⟨nd, rfl⟩⟩; refine ⟨_, rfl, ?_⟩) | ((with_reducible refine gate_callee (f := 103) rfl ?_); refine goesL_ (some 8) rfl rfl Try.func103 Z0 rfl #[.int .i64 a0, .int .i64 8, .int .i64 15] rfl Z10 ?_; (with_reducible refine (impl_within.calls a0 8 15 false _ A4.out).mono ?_); rintro e w' ⟨rfl, ⟨nd, rfl⟩⟩; refine ⟨_, rfl, ?_⟩) | ((with_reducible refine gate_callee (f := 103) rfl ?_); refine goesL_ (some 11) rfl rfl Try.func103 Z0 rfl #[.int .i64 a0, .int .i64 16, .int .i64 47] rfl Z10 ?_; (with_reducible refine (impl_within.calls a0 16 47 true _ A6.out).mono ?_); rintro e w' ⟨rfl, ⟨nd, rfl⟩⟩; refine ⟨_, rfl, ?_⟩))
    go_ret
    exact ⟨Z2, Z3⟩
   ·replace c7 := Bool.eq_false_iff.mpr c7
    subst c7
    have H1 : (some 0) = some r := by rw [if_neg (show ¬ (false = true) by decide)] at H; exact H
    clear H
    have H := H1
    clear H1
    obtain rfl := Option.some.inj H
    go_enter Try.func122, Try.ntmps122
    go_wp2_with (first | ((with_reducible refine gate_callee (f := 103) rfl ?_); refine goesL_ (some 5) rfl rfl Try.func103 Z0 rfl #[.int .i64 a0, .int .i64 0, .int .i64 7] rfl Z10 ?_; (with_reducible refine (impl_within.calls a0 0 7 false _ A2.out).mono ?_); rintro e w' ⟨rfl, ⟨nd, rfl⟩⟩; refine ⟨_, rfl, ?_⟩) | ((with_reducible refine gate_callee (f := 103) rfl ?_); refine goesL_ (some 8) rfl rfl Try.func103 Z0 rfl #[.int .i64 a0, .int .i64 8, .int .i64 15] rfl Z10 ?_; (with_reducible refine (impl_within.calls a0 8 15 false _ A4.out).mono ?_); rintro e w' ⟨rfl, ⟨nd, rfl⟩⟩; refine ⟨_, rfl, ?_⟩) | ((with_reducible refine gate_callee (f := 103) rfl ?_); refine goesL_ (some 11) rfl rfl Try.func103 Z0 rfl #[.int .i64 a0, .int .i64 16, .int .i64 47] rfl Z10 ?_; (with_reducible refine (impl_within.calls a0 16 47 false _ A6.out).mono ?_); rintro e w' ⟨rfl, ⟨nd, rfl⟩⟩; refine ⟨_, rfl, ?_⟩))
    go_ret
    exact ⟨Z2, Z3⟩

/-! ### impl_BitsOf: function 123 -/
def impl_BitsOf.f (a0 : Int) : Option (Int) := (impl_WidthOf.f a0).bind fun t385 => (if t385 = 4 then (some ((a0) % 4294967296)) else (if t385 = 5 then (some ((((a0) % 4294967296) + 8) % 4294967296)) else (if t385 = 7 then (some ((((a0) % 4294967296) + 80) % 4294967296)) else (some 0))))
set_option maxHeartbeats 8000000 in
set_option maxRecDepth 100000 in
theorem impl_BitsOf.calls (a0 : Int) (r : Int) (w : World) (h : impl_BitsOf.f a0 = some r) :
  Calls Try.prog 123 #[.int .i64 a0] w fun e w' => e = .returned (.int .u32 r) ∧ Drawn0 w w' := by
 have H : ((impl_WidthOf.f a0).bind fun t385 => (if t385 = 4 then (some ((a0) % 4294967296)) else (if t385 = 5 then (some ((((a0) % 4294967296) + 8) % 4294967296)) else (if t385 = 7 then (some ((((a0) % 4294967296) + 80) % 4294967296)) else (some 0))))) = some r := h
 clear h
 replace H := Option.bind_eq_some_iff.mp H
 obtain ⟨t385, A20, H⟩ := H
 replace H : (if t385 = 4 then (some ((a0) % 4294967296)) else (if t385 = 5 then (some ((((a0) % 4294967296) + 8) % 4294967296)) else (if t385 = 7 then (some ((((a0) % 4294967296) + 80) % 4294967296)) else (some 0)))) = some r := H
 have A2 := Aside0.mk A20
 clear A20
 by_cases c3 : t385 = 4
 ·rw [if_pos c3] at H
  have c3b0 : (t385 == 4) = true := beq_iff_eq.mpr c3
  have c3b1 : (t385 != 4) = false := bne_eq_false_iff_eq.mpr c3
  clear c3
  obtain rfl := Option.some.inj H
  go_enter Try.func123, Try.ntmps123
  go_wp2_with (first | ((with_reducible refine gate_callee (f := 122) rfl ?_); refine goesL_ (some 4) rfl rfl Try.func122 Z0 rfl #[.int .i64 a0] rfl Z10 ?_; (with_reducible refine (impl_WidthOf.calls a0 t385 _ A2.out).mono ?_); rintro e w' ⟨rfl, ⟨nd, rfl⟩⟩; refine ⟨_, rfl, ?_⟩))
  go_ret
  exact ⟨Z2, Z3⟩
 ·rw [if_neg c3] at H
  have c3b0 : (t385 == 4) = false := beq_eq_false_iff_ne.mpr c3
  have c3b1 : (t385 != 4) = true := bne_iff_ne.mpr c3
  by_cases c4 : t385 = 5
  ·rw [if_pos c4] at H
   have c4b0 : (t385 == 5) = true := beq_iff_eq.mpr c4
   have c4b1 : (t385 != 5) = false := bne_eq_false_iff_eq.mpr c4
   clear c4
   obtain rfl := Option.some.inj H
   go_enter Try.func123, Try.ntmps123
   go_wp2_with (first | ((with_reducible refine gate_callee (f := 122) rfl ?_); refine goesL_ (some 4) rfl rfl Try.func122 Z0 rfl #[.int .i64 a0] rfl Z10 ?_; (with_reducible refine (impl_WidthOf.calls a0 t385 _ A2.out).mono ?_); rintro e w' ⟨rfl, ⟨nd, rfl⟩⟩; refine ⟨_, rfl, ?_⟩))
   go_ret
   exact ⟨Z2, Z3⟩
  ·rw [if_neg c4] at H
   have c4b0 : (t385 == 5) = false := beq_eq_false_iff_ne.mpr c4
   have c4b1 : (t385 != 5) = true := bne_iff_ne.mpr c4
   by_cases c5 : t385 = 7
   ·rw [if_pos c5] at H
    have c5b0 : (t385 == 7) = true := beq_iff_eq.mpr c5
    have c5b1 : (t385 != 7) = false := bne_eq_false_iff_eq.mpr c5
    clear c5
    obtain rfl := Option.some.inj H
    go_enter Try.func123, Try.ntmps123
    go_wp2_with (first | ((with_reducible refine gate_callee (f := 122) rfl ?_); refine goesL_ (some 4) rfl rfl Try.func122 Z0 rfl #[.int .i64 a0] rfl Z10 ?_; (with_reducible refine (impl_WidthOf.calls a0 t385 _ A2.out).mono ?_); rintro e w' ⟨rfl, ⟨nd, rfl⟩⟩; refine ⟨_, rfl, ?_⟩))
    go_ret
    exact ⟨Z2, Z3⟩
   ·rw [if_neg c5] at H
    have c5b0 : (t385 == 7) = false := beq_eq_false_iff_ne.mpr c5
    have c5b1 : (t385 != 7) = true := bne_iff_ne.mpr c5
    obtain rfl := Option.some.inj H
    go_enter Try.func123, Try.ntmps123
    go_wp2_with (first | ((with_reducible refine gate_callee (f := 122) rfl ?_); refine goesL_ (some 4) rfl rfl Try.func122 Z0 rfl #[.int .i64 a0] rfl Z10 ?_; (with_reducible refine (impl_WidthOf.calls a0 t385 _ A2.out).mono ?_); rintro e w' ⟨rfl, ⟨nd, rfl⟩⟩; refine ⟨_, rfl, ?_⟩))
    go_ret
    exact ⟨Z2, Z3⟩

/-! ### impl_PackOne: function 107 -/
def impl_PackOne.l0 : Nat → ByteArray → Int → Int → Int → Int → Int → Option (Int × Int)
 | 0, _, _, _, _, _, _ => none
 | k + 1, x0, x4, x5, x6, x13, x14 => if x14 < x13 then (if 0 ≤ x14 then (if x14 < (x0.size : Int) then ((impl_LetterOf.f (bt x0 x14)).bind fun t387 => ((impl_WidthOf.f t387).bind fun t388 => (if t388 > x5 then (some (x4, x6)) else ((impl_WidthOf.f t387).bind fun t389 => ((impl_BitsOf.f t387).bind fun t390 => (if 0 ≤ (wrap64 (x5 - t389)) then (impl_PackOne.l0 k x0 (Go.bits .or .u32 x4 (shl .u32 t390 (wrap64 (x5 - t389)))) (wrap64 (x5 - t389)) (wrap64 (x6 + 1)) x13 (wrap64 (x14 + 1))) else (none))))))) else (none)) else (none)) else (some (x4, x6))
def impl_PackOne.f (k : Nat) (a0 : ByteArray) : Option (Int × Int) := (impl_NameOk.f k a0).bind fun t386 => (if t386 = true then (impl_PackOne.l0 k a0 0 28 0 (a0.size : Int) 0) else (some (0, 0)))
theorem impl_PackOne.mono_l : ∀ k, (∀ y0 y1 y2 y3 y4 y5, LeO (impl_PackOne.l0 k y0 y1 y2 y3 y4 y5) (impl_PackOne.l0 (k + 1) y0 y1 y2 y3 y4 y5))
 | 0 => fun _ _ _ _ _ _ r h => by simp [impl_PackOne.l0] at h
 | k + 1 => by
  have ih0 := impl_PackOne.mono_l k
  ·intro y0 y1 y2 y3 y4 y5
   unfold impl_PackOne.l0
   repeat' first
   | (with_reducible exact ih0 _ _ _ _ _ _)
   | (with_reducible exact impl_NameOk.mono _ _)
   | (with_reducible exact LeO.refl _)
   | (with_reducible exact LeO.none _)
   | (with_reducible refine LeO.ite ?_ ?_)
   | (with_reducible refine LeO.bind ?_ (fun _ => ?_))
   | exact ih0 _ _ _ _ _ _
   | exact impl_NameOk.mono _ _
   | exact LeO.none _
   | refine LeO.ite ?_ ?_
   | refine LeO.bind ?_ (fun _ => ?_)
theorem impl_PackOne.mono : ∀ a0 k, LeO (impl_PackOne.f k a0) (impl_PackOne.f (k + 1) a0) := by
 intro a0 k
 have ih0 := impl_PackOne.mono_l k
 unfold impl_PackOne.f
 repeat' first
   | (with_reducible exact ih0 _ _ _ _ _ _)
   | (with_reducible exact impl_NameOk.mono _ _)
   | (with_reducible exact LeO.refl _)
   | (with_reducible exact LeO.none _)
   | (with_reducible refine LeO.ite ?_ ?_)
   | (with_reducible refine LeO.bind ?_ (fun _ => ?_))
   | exact ih0 _ _ _ _ _ _
   | exact impl_NameOk.mono _ _
   | exact LeO.none _
   | refine LeO.ite ?_ ?_
   | refine LeO.bind ?_ (fun _ => ?_)
set_option maxHeartbeats 8000000 in
set_option maxRecDepth 100000 in
theorem impl_PackOne.calls (k : Nat) (a0 : ByteArray) (r1 : Int) (r2 : Int) (w : World) (h : impl_PackOne.f k a0 = some (r1, r2)) :
  Calls Try.prog 107 #[.string a0] w fun e w' => e = .returned (.tuple #[.int .u32 r1, .int .i64 r2]) ∧ Drawn0 w w' := by
 have H : ((impl_NameOk.f k a0).bind fun t386 => (if t386 = true then (impl_PackOne.l0 k a0 0 28 0 (a0.size : Int) 0) else (some (0, 0)))) = some (r1, r2) := h
 clear h
 replace H := Option.bind_eq_some_iff.mp H
 obtain ⟨t386, A20, H⟩ := H
 replace H : (if t386 = true then (impl_PackOne.l0 k a0 0 28 0 (a0.size : Int) 0) else (some (0, 0))) = some (r1, r2) := H
 have A2 := Aside0.mk A20
 clear A20
 by_cases c3 : t386 = true
 ·subst c3
  have H1 : (impl_PackOne.l0 k a0 0 28 0 (a0.size : Int) 0) = some (r1, r2) := Z11
  clear H
  have H := H1
  clear H1
  have H' := Aside0.mk H
  clear H
  go_enter Try.func107, Try.ntmps107
  go_wp2_with (first | ((with_reducible refine gate_callee (f := 106) rfl ?_); refine goesL_ (some 10) rfl rfl Try.func106 Z0 rfl #[.string a0] rfl Z10 ?_; (with_reducible refine (impl_NameOk.calls k a0 true _ A2.out).mono ?_); rintro e w' ⟨rfl, ⟨nd, rfl⟩⟩; refine ⟨_, rfl, ?_⟩))
  go_loopg [4, 5, 6, 14] k (fun kq v4 v5 v6 v14 w' => ∃ (x4_1 : Int) (x5_1 : Int) (x6_1 : Int) (x14_1 : Int), v4 = .int .u32 x4_1 ∧ v5 = .int .i64 x5_1 ∧ v6 = .int .i64 x6_1 ∧ v14 = .int .i64 x14_1 ∧ Aside0 (impl_PackOne.l0 kq a0 x4_1 x5_1 x6_1 (a0.size : Int) x14_1 = some (r1, r2)) ∧ Aside0 (kq ≤ k) ∧ Drawn0 w w')
  case atStart => exact ⟨(0), (28), (0), (0), Z2, Z2, Z2, Z2, H', ⟨Nat.le_refl _⟩, Z3⟩
  case round =>
   clear H'
   try clear c1
   try clear p2
   try clear c3
   obtain ⟨x4_1, x5_1, x6_1, x14_1, rfl, rfl, rfl, rfl, HA, HK1, ⟨m1, rfl⟩⟩ := hrel
   cases gk with
   | zero => exact absurd HA.out (by simp [impl_PackOne.l0])
   | succ k1 =>
    have H := HA.out
    clear HA
    simp only [impl_PackOne.l0] at H
    by_cases c4 : x14_1 < (a0.size : Int)
    ·rw [if_pos c4] at H
     have c4b0 : decide (x14_1 < (a0.size : Int)) = true := decide_eq_true c4
     clear c4
     by_cases c5 : 0 ≤ x14_1
     ·rw [if_pos c5] at H
      have c5b0 : decide (0 ≤ x14_1) = true := decide_eq_true c5
      clear c5
      by_cases c6 : x14_1 < (a0.size : Int)
      ·rw [if_pos c6] at H
       have c6b0 : decide (x14_1 < (a0.size : Int)) = true := decide_eq_true c6
       clear c6
       replace H := Option.bind_eq_some_iff.mp H
       obtain ⟨t387, A80, H⟩ := H
       replace H : ((impl_WidthOf.f t387).bind fun t388 => (if t388 > x5_1 then (some (x4_1, x6_1)) else ((impl_WidthOf.f t387).bind fun t389 => ((impl_BitsOf.f t387).bind fun t390 => (if 0 ≤ (wrap64 (x5_1 - t389)) then (impl_PackOne.l0 k1 a0 (Go.bits .or .u32 x4_1 (shl .u32 t390 (wrap64 (x5_1 - t389)))) (wrap64 (x5_1 - t389)) (wrap64 (x6_1 + 1)) (a0.size : Int) (wrap64 (x14_1 + 1))) else (none)))))) = some (r1, r2) := H
       have A8 := Aside0.mk A80
       clear A80
       replace H := Option.bind_eq_some_iff.mp H
       obtain ⟨t388, A90, H⟩ := H
       replace H : (if t388 > x5_1 then (some (x4_1, x6_1)) else ((impl_WidthOf.f t387).bind fun t389 => ((impl_BitsOf.f t387).bind fun t390 => (if 0 ≤ (wrap64 (x5_1 - t389)) then (impl_PackOne.l0 k1 a0 (Go.bits .or .u32 x4_1 (shl .u32 t390 (wrap64 (x5_1 - t389)))) (wrap64 (x5_1 - t389)) (wrap64 (x6_1 + 1)) (a0.size : Int) (wrap64 (x14_1 + 1))) else (none))))) = some (r1, r2) := H
       have A9 := Aside0.mk A90
       clear A90
       by_cases c10 : t388 > x5_1
       ·rw [if_pos c10] at H
        have c10b0 : decide (x5_1 < t388) = true := decide_eq_true c10
        clear c10
        simp only [Option.some.injEq, Prod.mk.injEq] at H
        obtain ⟨rfl, rfl⟩ := H
        have p7 : 0 ≤ (x14_1 : Int) := of_decide_eq_true Z5
        have q7 : x14_1 < (a0.size : Int) := of_decide_eq_true Z5
        have hx7 := bt_at a0 x14_1
        replace p7 := eq_true p7
        replace q7 := eq_true q7
        go_wp2_with (first | ((with_reducible refine gate_callee (f := 121) rfl ?_); refine goesL_ (some 20) rfl rfl Try.func121 Z0 rfl #[.int .u8 (bt a0 x14_1)] rfl Z10 ?_; (with_reducible refine (impl_LetterOf.calls (bt a0 x14_1) t387 _ A8.out).mono ?_); rintro e w' ⟨rfl, ⟨nd, rfl⟩⟩; refine ⟨_, rfl, ?_⟩) | ((with_reducible refine gate_callee (f := 122) rfl ?_); refine goesL_ (some 22) rfl rfl Try.func122 Z0 rfl #[.int .i64 t387] rfl Z10 ?_; (with_reducible refine (impl_WidthOf.calls t387 t388 _ A9.out).mono ?_); rintro e w' ⟨rfl, ⟨nd, rfl⟩⟩; refine ⟨_, rfl, ?_⟩))
        go_ret2
        exact ⟨Z2, Z3⟩
       ·rw [if_neg c10] at H
        have c10b0 : decide (x5_1 < t388) = false := decide_eq_false c10
        clear c10
        replace H := Option.bind_eq_some_iff.mp H
        obtain ⟨t389, A110, H⟩ := H
        replace H : ((impl_BitsOf.f t387).bind fun t390 => (if 0 ≤ (wrap64 (x5_1 - t389)) then (impl_PackOne.l0 k1 a0 (Go.bits .or .u32 x4_1 (shl .u32 t390 (wrap64 (x5_1 - t389)))) (wrap64 (x5_1 - t389)) (wrap64 (x6_1 + 1)) (a0.size : Int) (wrap64 (x14_1 + 1))) else (none))) = some (r1, r2) := H
        have A11 := Aside0.mk A110
        clear A110
        replace H := Option.bind_eq_some_iff.mp H
        obtain ⟨t390, A120, H⟩ := H
        replace H : (if 0 ≤ (wrap64 (x5_1 - t389)) then (impl_PackOne.l0 k1 a0 (Go.bits .or .u32 x4_1 (shl .u32 t390 (wrap64 (x5_1 - t389)))) (wrap64 (x5_1 - t389)) (wrap64 (x6_1 + 1)) (a0.size : Int) (wrap64 (x14_1 + 1))) else (none)) = some (r1, r2) := H
        have A12 := Aside0.mk A120
        clear A120
        obtain ⟨ji13, hji13⟩ : ∃ j_ : Int, (wrap64 (x5_1 - t389)) = j_ := ⟨_, rfl⟩
        replace H : (if 0 ≤ (ji13) then (impl_PackOne.l0 k1 a0 (Go.bits .or .u32 x4_1 (shl .u32 t390 (ji13))) ji13 (wrap64 (x6_1 + 1)) (a0.size : Int) (wrap64 (x14_1 + 1))) else (none)) = some (r1, r2) := Z20
        (try rw [hji13] at A8)
        (try rw [hji13] at A9)
        (try rw [hji13] at A11)
        (try rw [hji13] at A12)
        have hji13w : (IntKind.i64.wrap (x5_1 - t389)) = ji13 := (i64_w _).trans hji13
        by_cases c14 : 0 ≤ (ji13)
        ·rw [if_pos c14] at H
         have c14b0 := eq_true c14
         have c14b1 : decide (0 ≤ (ji13)) = true := decide_eq_true c14
         clear c14
         obtain ⟨ji15, hji15⟩ : ∃ j_ : Int, (shl .u32 t390 (ji13)) = j_ := ⟨_, rfl⟩
         replace H : (impl_PackOne.l0 k1 a0 (Go.bits .or .u32 x4_1 (ji15)) ji13 (wrap64 (x6_1 + 1)) (a0.size : Int) (wrap64 (x14_1 + 1))) = some (r1, r2) := Z21
         (try rw [hji15] at A8)
         (try rw [hji15] at A9)
         (try rw [hji15] at A11)
         (try rw [hji15] at A12)
         have hji15_ : (IntKind.u32.wrap (t390 * 2 ^ min (ji13).toNat 32)) = ji15 := hji15
         have hji15z : (ji13) ≤ 32 → (IntKind.u32.wrap (t390 * 2 ^ (ji13).toNat)) = ji15 := shl_small hji15
         have H' := Aside0.mk H
         clear H
         have p7 : 0 ≤ (x14_1 : Int) := of_decide_eq_true Z5
         have q7 : x14_1 < (a0.size : Int) := of_decide_eq_true Z5
         have hx7 := bt_at a0 x14_1
         replace p7 := eq_true p7
         replace q7 := eq_true q7
         go_wp2_with (first | ((with_reducible refine gate_callee (f := 121) rfl ?_); refine goesL_ (some 20) rfl rfl Try.func121 Z0 rfl #[.int .u8 (bt a0 x14_1)] rfl Z10 ?_; (with_reducible refine (impl_LetterOf.calls (bt a0 x14_1) t387 _ A8.out).mono ?_); rintro e w' ⟨rfl, ⟨nd, rfl⟩⟩; refine ⟨_, rfl, ?_⟩) | ((with_reducible refine gate_callee (f := 122) rfl ?_); refine goesL_ (some 22) rfl rfl Try.func122 Z0 rfl #[.int .i64 t387] rfl Z10 ?_; (with_reducible refine (impl_WidthOf.calls t387 t388 _ A9.out).mono ?_); rintro e w' ⟨rfl, ⟨nd, rfl⟩⟩; refine ⟨_, rfl, ?_⟩) | ((with_reducible refine gate_callee (f := 122) rfl ?_); refine goesL_ (some 27) rfl rfl Try.func122 Z0 rfl #[.int .i64 t387] rfl Z10 ?_; (with_reducible refine (impl_WidthOf.calls t387 t389 _ A11.out).mono ?_); rintro e w' ⟨rfl, ⟨nd, rfl⟩⟩; refine ⟨_, rfl, ?_⟩) | ((with_reducible refine gate_callee (f := 123) rfl ?_); refine goesL_ (some 31) rfl rfl Try.func123 Z0 rfl #[.int .i64 t387] rfl Z10 ?_; (with_reducible refine (impl_BitsOf.calls t387 t390 _ A12.out).mono ?_); rintro e w' ⟨rfl, ⟨nd, rfl⟩⟩; refine ⟨_, rfl, ?_⟩))
         go_roundg k1
         case measure => have := HK1.out; omega
         case rel => exact ⟨(Go.bits .or .u32 x4_1 (ji15)), (ji13), (wrap64 (x6_1 + 1)), (wrap64 (x14_1 + 1)), (by first | rfl | (simp; done) | (simp only [← hji15] <;> (first | rfl | simp)) | (simp [*]; done)), (by first | rfl | (simp; done) | (simp only [← hji13] <;> (first | rfl | simp)) | (simp [*]; done)), Z2, Z2, H', ⟨Z6⟩, Z3⟩
        ·rw [if_neg c14] at H
         exact absurd H (by simp)
      ·rw [if_neg c6] at H
       exact absurd H (by simp)
     ·rw [if_neg c5] at H
      exact absurd H (by simp)
    ·rw [if_neg c4] at H
     have c4b0 : decide (x14_1 < (a0.size : Int)) = false := decide_eq_false c4
     clear c4
     simp only [Option.some.injEq, Prod.mk.injEq] at H
     obtain ⟨rfl, rfl⟩ := H
     go_wp2
     go_ret2
     exact ⟨Z2, Z3⟩
 ·replace c3 := Bool.eq_false_iff.mpr c3
  subst c3
  have H1 : (some (0, 0)) = some (r1, r2) := by rw [if_neg (show ¬ (false = true) by decide)] at H; exact H
  clear H
  have H := H1
  clear H1
  simp only [Option.some.injEq, Prod.mk.injEq] at H
  obtain ⟨rfl, rfl⟩ := H
  go_enter Try.func107, Try.ntmps107
  go_wp2_with (first | ((with_reducible refine gate_callee (f := 106) rfl ?_); refine goesL_ (some 10) rfl rfl Try.func106 Z0 rfl #[.string a0] rfl Z10 ?_; (with_reducible refine (impl_NameOk.calls k a0 false _ A2.out).mono ?_); rintro e w' ⟨rfl, ⟨nd, rfl⟩⟩; refine ⟨_, rfl, ?_⟩))
  go_ret2
  exact ⟨Z2, Z3⟩

/-! ### impl_Pack: function 78 -/
def impl_Pack.l0 : Nat → ByteArray → List Int → Option (List Int)
 | 0, _, _ => none
 | k + 1, x0, x3 => (impl_NameOk.f k x0).bind fun t394 => (if t394 = true then ((impl_PackOne.f k x0).bind fun bt395 => (if x3.length < 35184372088832 then (if 0 ≤ bt395.2 then (if bt395.2 ≤ (x0.size : Int) then (impl_Pack.l0 k (x0.extract (bt395.2 : Int).toNat x0.size) (x3 ++ [bt395.1])) else (none)) else (none)) else (none))) else (some x3))
def impl_Pack.f (k : Nat) (a0 : ByteArray) : Option (List Int) := impl_Pack.l0 k a0 (([] : List Int))
theorem impl_Pack.mono_l : ∀ k, (∀ y0 y1, LeO (impl_Pack.l0 k y0 y1) (impl_Pack.l0 (k + 1) y0 y1))
 | 0 => fun _ _ r h => by simp [impl_Pack.l0] at h
 | k + 1 => by
  have ih0 := impl_Pack.mono_l k
  ·intro y0 y1
   unfold impl_Pack.l0
   repeat' first
   | (with_reducible exact ih0 _ _)
   | (with_reducible exact impl_NameOk.mono _ _)
   | (with_reducible exact impl_PackOne.mono _ _)
   | (with_reducible exact LeO.refl _)
   | (with_reducible exact LeO.none _)
   | (with_reducible refine LeO.ite ?_ ?_)
   | (with_reducible refine LeO.bind ?_ (fun _ => ?_))
   | exact ih0 _ _
   | exact impl_NameOk.mono _ _
   | exact impl_PackOne.mono _ _
   | exact LeO.none _
   | refine LeO.ite ?_ ?_
   | refine LeO.bind ?_ (fun _ => ?_)
theorem impl_Pack.mono : ∀ a0 k, LeO (impl_Pack.f k a0) (impl_Pack.f (k + 1) a0) := by
 intro a0 k
 have ih0 := impl_Pack.mono_l k
 unfold impl_Pack.f
 repeat' first
   | (with_reducible exact ih0 _ _)
   | (with_reducible exact impl_NameOk.mono _ _)
   | (with_reducible exact impl_PackOne.mono _ _)
   | (with_reducible exact LeO.refl _)
   | (with_reducible exact LeO.none _)
   | (with_reducible refine LeO.ite ?_ ?_)
   | (with_reducible refine LeO.bind ?_ (fun _ => ?_))
   | exact ih0 _ _
   | exact impl_NameOk.mono _ _
   | exact impl_PackOne.mono _ _
   | exact LeO.none _
   | refine LeO.ite ?_ ?_
   | refine LeO.bind ?_ (fun _ => ?_)
set_option maxHeartbeats 8000000 in
set_option maxRecDepth 100000 in
theorem impl_Pack.calls (k : Nat) (a0 : ByteArray) (r : List Int) (w : World) (h : impl_Pack.f k a0 = some r) :
  Calls Try.prog 78 #[.string a0] w fun e w' => ∃ v0_ : Value, e = .returned (v0_) ∧ Kd.R (Kd.int .u32) 47 w' w.heap.size (fun _ => True) v0_ r ∧ Below w.heap.size w w' := by
 have HB := Z (Below.refl w.heap.size w)
 have H : (impl_Pack.l0 k a0 (([] : List Int))) = some r := h
 clear h
 obtain ⟨y391, hy391⟩ : ∃ y_ : List Int, y_ = (([] : List Int)) := ⟨_, rfl⟩
 replace H : (impl_Pack.l0 k a0 y391) = some r := by first | (rw [hy391]; with_reducible exact H) | (have H2_ := (Option.bind_some _ _).symm.trans H; rw [hy391]; with_reducible exact H2_) | (have H2_ := (Option.bind_some _ _).symm.trans H; with_reducible exact H2_) | with_reducible exact H | (rw [hy391]; exact H) | exact H
 have Ny391 := Aside0.mk hy391
 clear hy391
 have H' := Aside0.mk H
 clear H
 go_enter Try.func78, Try.ntmps78
 go_wp2_with (first | ((with_reducible refine gate_dst (N := 6) rfl ?_); refine Kd.R_lit (Kd.int .u32) _ 47 (by rfl) (N := 6) (by rfl) (xs := ([] : List Int)) (inner := []) (ok := fun _ => True) (okp := fun _ => True) Z7 (Reps.none _ _) (fun _ hk => hk) trivial (Below.refl _ _) (Nat.le_refl _) (by simp) ?_; intro v392 w2 ho3 hb hg_ hnew_; clear hg_ hnew_; (first | rw [← Ny391.out] at ho3 | (simp only [Int.reduceToNat] at ho3; rw [← Ny391.out] at ho3)); have HO393 := Z (Kd.R_lower ho3 (below_size Z63)); replace HB := Z (below_step Z63 hb); clear hb ho3))
 go_loopg [0, 3] k (fun kq v0 v3 w' => ∃ (x0_1 : ByteArray) (x3_1 : List Int), v0 = .string x0_1 ∧ Aside0 (impl_Pack.l0 kq x0_1 x3_1 = some r) ∧ Aside0 (kq ≤ k) ∧ Aside0 (Kd.R (Kd.int .u32) 47 w' w.heap.size (fun _ => True) v3 x3_1) ∧ Aside0 (Below w.heap.size w w'))
 case atStart => exact ⟨(a0), (y391), Z2, H', ⟨Nat.le_refl _⟩, ⟨(Z12 HO393)⟩, ⟨Z63⟩⟩
 case round =>
  clear H'
  try clear p2
  obtain ⟨x0_1, x3_1, rfl, HA, HK1, HO_3, HB⟩ := hrel
  cases gk with
  | zero => exact absurd HA.out (by simp [impl_Pack.l0])
  | succ k1 =>
   have H := HA.out
   clear HA
   simp only [impl_Pack.l0] at H
   replace H := Option.bind_eq_some_iff.mp H
   obtain ⟨t394, A40, H⟩ := H
   replace H : (if t394 = true then ((impl_PackOne.f k1 x0_1).bind fun bt395 => (if x3_1.length < 35184372088832 then (if 0 ≤ bt395.2 then (if bt395.2 ≤ (x0_1.size : Int) then (impl_Pack.l0 k1 (x0_1.extract (bt395.2 : Int).toNat x0_1.size) (x3_1 ++ [bt395.1])) else (none)) else (none)) else (none))) else (some x3_1)) = some r := H
   have A4 := Aside0.mk A40
   clear A40
   by_cases c5 : t394 = true
   ·subst c5
    have H1 : ((impl_PackOne.f k1 x0_1).bind fun bt395 => (if x3_1.length < 35184372088832 then (if 0 ≤ bt395.2 then (if bt395.2 ≤ (x0_1.size : Int) then (impl_Pack.l0 k1 (x0_1.extract (bt395.2 : Int).toNat x0_1.size) (x3_1 ++ [bt395.1])) else (none)) else (none)) else (none))) = some r := Z11
    clear H
    have H := H1
    clear H1
    replace H := Option.bind_eq_some_iff.mp H
    obtain ⟨⟨t395, t396⟩, A60, H⟩ := H
    replace H : (if x3_1.length < 35184372088832 then (if 0 ≤ t396 then (if t396 ≤ (x0_1.size : Int) then (impl_Pack.l0 k1 (x0_1.extract (t396 : Int).toNat x0_1.size) (x3_1 ++ [t395])) else (none)) else (none)) else (none)) = some r := H
    have A6 := Aside0.mk A60
    clear A60
    by_cases c7 : x3_1.length < 35184372088832
    ·rw [if_pos c7] at H
     have LMc7 := Aside0.mk c7
     clear c7
     obtain ⟨y397, hy397⟩ : ∃ y_ : List Int, y_ = (x3_1 ++ [t395]) := ⟨_, rfl⟩
     replace H : (if 0 ≤ t396 then (if t396 ≤ (x0_1.size : Int) then (impl_Pack.l0 k1 (x0_1.extract (t396 : Int).toNat x0_1.size) y397) else (none)) else (none)) = some r := by first | (rw [hy397]; with_reducible exact H) | (have H2_ := (Option.bind_some _ _).symm.trans H; rw [hy397]; with_reducible exact H2_) | (have H2_ := (Option.bind_some _ _).symm.trans H; with_reducible exact H2_) | with_reducible exact H | (rw [hy397]; exact H) | exact H
     have Ny397 := Aside0.mk hy397
     clear hy397
     by_cases c8 : 0 ≤ t396
     ·rw [if_pos c8] at H
      have c8b0 := eq_true c8
      have c8b1 : decide (0 ≤ t396) = true := decide_eq_true c8
      clear c8
      by_cases c9 : t396 ≤ (x0_1.size : Int)
      ·rw [if_pos c9] at H
       have c9b0 := eq_true c9
       have c9b1 : decide (t396 ≤ (x0_1.size : Int)) = true := decide_eq_true c9
       clear c9
       have H' := Aside0.mk H
       clear H
       go_wp2_with (first | ((with_reducible refine gate_callee (f := 106) rfl ?_); refine goesL_ (some 8) rfl rfl Try.func106 Z0 rfl #[.string x0_1] rfl Z10 ?_; (with_reducible refine (impl_NameOk.calls k1 x0_1 true _ A4.out).mono ?_); rintro e w' ⟨rfl, ⟨nd, rfl⟩⟩; refine ⟨_, rfl, ?_⟩) | ((with_reducible refine gate_callee (f := 107) rfl ?_); refine goesL_ (some 11) rfl rfl Try.func107 Z0 rfl #[.string x0_1] rfl Z10 ?_; (with_reducible refine (impl_PackOne.calls k1 x0_1 t395 t396 _ A6.out).mono ?_); rintro e w' ⟨rfl, ⟨nd, rfl⟩⟩; refine ⟨_, rfl, ?_⟩) | ((with_reducible refine gate_builtin (b := .append) (xs := #[.tmp 14, .tmp 16]) rfl ?_); at_builtin; refine Kd.R_append (Kd.int .u32) (w0 := w) w.heap.size rfl (.tmp 14) (.tmp 16) 24 47 (.int .u32 0) 4 rfl Try.underlying24 info47 rfl (by decide) (by omega) u3 x3_1 t395 [.int .u32 t395] (fun _ => True) (fun _ => False) rfl rfl ?aP (fun _ hk => hk.elim) ?aF ?aO ?aB ?aS ?aL ?_; (case aP => exact rfl); (case aB => exact Z63); (case aF => exact (fun _ _ => trivial)); (case aO => exact (Z12 HO_3)); (case aS => exact (below_size Z63)); (case aL => have := LMc7.out; omega); intro v398 w10 ho hb hg hat; rw [← Ny397.out] at ho; replace HB := Z (hb); have HO399 := Z (ho); clear HO_3; clear ho hb hg hat))
       go_roundg k1
       case measure => have := HK1.out; omega
       case rel => exact ⟨(x0_1.extract (t396 : Int).toNat x0_1.size), (y397), Z2, H', ⟨Z6⟩, ⟨(Z12 HO399)⟩, ⟨Z63⟩⟩
      ·rw [if_neg c9] at H
       exact absurd H (by simp)
     ·rw [if_neg c8] at H
      exact absurd H (by simp)
    ·rw [if_neg c7] at H
     exact absurd H (by simp)
   ·replace c5 := Bool.eq_false_iff.mpr c5
    subst c5
    have H1 : (some x3_1) = some r := by rw [if_neg (show ¬ (false = true) by decide)] at H; exact H
    clear H
    have H := H1
    clear H1
    obtain rfl := Option.some.inj H
    go_wp2_with (first | ((with_reducible refine gate_callee (f := 106) rfl ?_); refine goesL_ (some 8) rfl rfl Try.func106 Z0 rfl #[.string x0_1] rfl Z10 ?_; (with_reducible refine (impl_NameOk.calls k1 x0_1 false _ A4.out).mono ?_); rintro e w' ⟨rfl, ⟨nd, rfl⟩⟩; refine ⟨_, rfl, ?_⟩))
    go_ret
    exact ⟨_, Z9, (Z12 HO_3), Z63⟩

/-! ### impl_numberCells: function 79 -/
def impl_numberCells.f (a0 : Int) (a1 : Bool) (a2 : Int) (a3 : Int) : Option (List Int) := if a1 = true then (if a0 ≥ (-67108864) then (if a0 ≤ 67108863 then (some (([Go.bits .or .u32 (Go.bits .or .u32 ((((a0) % 4294967296) * 32) % 4294967296) 16) a2] : List Int))) else (some (([Go.bits .or .u32 16 a3, (a0) % 4294967296] : List Int)))) else (some (([Go.bits .or .u32 16 a3, (a0) % 4294967296] : List Int)))) else (if a0 ≥ (-67108864) then (if a0 ≤ 67108863 then (some (([Go.bits .or .u32 (Go.bits .or .u32 ((((a0) % 4294967296) * 32) % 4294967296) 0) a2] : List Int))) else (some (([Go.bits .or .u32 0 a3, (a0) % 4294967296] : List Int)))) else (some (([Go.bits .or .u32 0 a3, (a0) % 4294967296] : List Int))))
set_option maxHeartbeats 8000000 in
set_option maxRecDepth 100000 in
theorem impl_numberCells.calls (a0 : Int) (a1 : Bool) (a2 : Int) (a3 : Int) (r : List Int) (w : World) (h : impl_numberCells.f a0 a1 a2 a3 = some r) :
  Calls Try.prog 79 #[.int .i32 a0, .bool a1, .int .u32 a2, .int .u32 a3] w fun e w' => ∃ v0_ : Value, e = .returned (v0_) ∧ Kd.R (Kd.int .u32) 47 w' w.heap.size (fun _ => True) v0_ r ∧ Below w.heap.size w w' := by
 have HB := Z (Below.refl w.heap.size w)
 have H : (if a1 = true then (if a0 ≥ (-67108864) then (if a0 ≤ 67108863 then (some (([Go.bits .or .u32 (Go.bits .or .u32 ((((a0) % 4294967296) * 32) % 4294967296) 16) a2] : List Int))) else (some (([Go.bits .or .u32 16 a3, (a0) % 4294967296] : List Int)))) else (some (([Go.bits .or .u32 16 a3, (a0) % 4294967296] : List Int)))) else (if a0 ≥ (-67108864) then (if a0 ≤ 67108863 then (some (([Go.bits .or .u32 (Go.bits .or .u32 ((((a0) % 4294967296) * 32) % 4294967296) 0) a2] : List Int))) else (some (([Go.bits .or .u32 0 a3, (a0) % 4294967296] : List Int)))) else (some (([Go.bits .or .u32 0 a3, (a0) % 4294967296] : List Int))))) = some r := h
 clear h
 by_cases c5 : a1 = true
 ·subst c5
  have H1 : (if a0 ≥ (-67108864) then (if a0 ≤ 67108863 then (some (([Go.bits .or .u32 (Go.bits .or .u32 ((((a0) % 4294967296) * 32) % 4294967296) 16) a2] : List Int))) else (some (([Go.bits .or .u32 16 a3, (a0) % 4294967296] : List Int)))) else (some (([Go.bits .or .u32 16 a3, (a0) % 4294967296] : List Int)))) = some r := Z11
  clear H
  have H := H1
  clear H1
  by_cases c6 : a0 ≥ (-67108864)
  ·rw [if_pos c6] at H
   have c6b0 : decide ((-67108864) ≤ a0) = true := decide_eq_true c6
   clear c6
   by_cases c7 : a0 ≤ 67108863
   ·rw [if_pos c7] at H
    have c7b0 : decide (a0 ≤ 67108863) = true := decide_eq_true c7
    clear c7
    obtain ⟨y400, hy400⟩ : ∃ y_ : List Int, y_ = (([Go.bits .or .u32 (Go.bits .or .u32 ((((a0) % 4294967296) * 32) % 4294967296) 16) a2] : List Int)) := ⟨_, rfl⟩
    replace H : (some y400) = some r := by first | (rw [hy400]; with_reducible exact H) | (have H2_ := (Option.bind_some _ _).symm.trans H; rw [hy400]; with_reducible exact H2_) | (have H2_ := (Option.bind_some _ _).symm.trans H; with_reducible exact H2_) | with_reducible exact H | (rw [hy400]; exact H) | exact H
    have Ny400 := Aside0.mk hy400
    clear hy400
    obtain rfl := Option.some.inj H
    go_enter Try.func79, Try.ntmps79
    go_wp2_with (first | ((with_reducible refine gate_dst (N := 24) rfl ?_); refine Kd.R_lit (Kd.int .u32) _ 47 (by rfl) (N := 24) (by rfl) (xs := ([Go.bits .or .u32 (Go.bits .or .u32 ((((a0) % 4294967296) * 32) % 4294967296) 16) a2] : List Int)) (inner := [.int .u32 (Go.bits .or .u32 (Go.bits .or .u32 ((((a0) % 4294967296) * 32) % 4294967296) 16) a2)]) (ok := fun _ => True) (okp := fun _ => True) Z7 (Reps.one (show Kd.M (Kd.int .u32) _ _ _ (Go.bits .or .u32 (Go.bits .or .u32 ((((a0) % 4294967296) * 32) % 4294967296) 16) a2) [.int .u32 (Go.bits .or .u32 (Go.bits .or .u32 ((((a0) % 4294967296) * 32) % 4294967296) 16) a2)] from rfl) (Reps.none _ _)) (fun _ hk => hk) trivial (Below.refl _ _) (Nat.le_refl _) (by simp) ?_; intro v401 w8 ho9 hb hg_ hnew_; clear hg_ hnew_; (first | rw [← Ny400.out] at ho9 | (simp only [Int.reduceToNat] at ho9; rw [← Ny400.out] at ho9)); have HO402 := Z (Kd.R_lower ho9 (below_size Z63)); replace HB := Z (below_step Z63 hb); clear hb ho9))
    go_ret
    exact ⟨_, Z9, (Z12 HO402), Z63⟩
   ·rw [if_neg c7] at H
    have c7b0 : decide (a0 ≤ 67108863) = false := decide_eq_false c7
    clear c7
    obtain ⟨y403, hy403⟩ : ∃ y_ : List Int, y_ = (([Go.bits .or .u32 16 a3, (a0) % 4294967296] : List Int)) := ⟨_, rfl⟩
    replace H : (some y403) = some r := by first | (rw [hy403]; with_reducible exact H) | (have H2_ := (Option.bind_some _ _).symm.trans H; rw [hy403]; with_reducible exact H2_) | (have H2_ := (Option.bind_some _ _).symm.trans H; with_reducible exact H2_) | with_reducible exact H | (rw [hy403]; exact H) | exact H
    have Ny403 := Aside0.mk hy403
    clear hy403
    obtain rfl := Option.some.inj H
    go_enter Try.func79, Try.ntmps79
    go_wp2_with (first | ((with_reducible refine gate_dst (N := 30) rfl ?_); refine Kd.R_lit (Kd.int .u32) _ 47 (by rfl) (N := 30) (by rfl) (xs := ([Go.bits .or .u32 16 a3, (a0) % 4294967296] : List Int)) (inner := [.int .u32 (Go.bits .or .u32 16 a3), .int .u32 ((a0) % 4294967296)]) (ok := fun _ => True) (okp := fun _ => True) Z7 (Reps.one (show Kd.M (Kd.int .u32) _ _ _ (Go.bits .or .u32 16 a3) [.int .u32 (Go.bits .or .u32 16 a3)] from rfl) (Reps.one (show Kd.M (Kd.int .u32) _ _ _ ((a0) % 4294967296) [.int .u32 ((a0) % 4294967296)] from rfl) (Reps.none _ _))) (fun _ hk => hk) trivial (Below.refl _ _) (Nat.le_refl _) (by simp) ?_; intro v404 w10 ho11 hb hg_ hnew_; clear hg_ hnew_; (first | rw [← Ny403.out] at ho11 | (simp only [Int.reduceToNat] at ho11; rw [← Ny403.out] at ho11)); have HO405 := Z (Kd.R_lower ho11 (below_size Z63)); replace HB := Z (below_step Z63 hb); clear hb ho11))
    go_ret
    exact ⟨_, Z9, (Z12 HO405), Z63⟩
  ·rw [if_neg c6] at H
   have c6b0 : decide ((-67108864) ≤ a0) = false := decide_eq_false c6
   clear c6
   obtain ⟨y406, hy406⟩ : ∃ y_ : List Int, y_ = (([Go.bits .or .u32 16 a3, (a0) % 4294967296] : List Int)) := ⟨_, rfl⟩
   replace H : (some y406) = some r := by first | (rw [hy406]; with_reducible exact H) | (have H2_ := (Option.bind_some _ _).symm.trans H; rw [hy406]; with_reducible exact H2_) | (have H2_ := (Option.bind_some _ _).symm.trans H; with_reducible exact H2_) | with_reducible exact H | (rw [hy406]; exact H) | exact H
   have Ny406 := Aside0.mk hy406
   clear hy406
   obtain rfl := Option.some.inj H
   go_enter Try.func79, Try.ntmps79
   go_wp2_with (first | ((with_reducible refine gate_dst (N := 30) rfl ?_); refine Kd.R_lit (Kd.int .u32) _ 47 (by rfl) (N := 30) (by rfl) (xs := ([Go.bits .or .u32 16 a3, (a0) % 4294967296] : List Int)) (inner := [.int .u32 (Go.bits .or .u32 16 a3), .int .u32 ((a0) % 4294967296)]) (ok := fun _ => True) (okp := fun _ => True) Z7 (Reps.one (show Kd.M (Kd.int .u32) _ _ _ (Go.bits .or .u32 16 a3) [.int .u32 (Go.bits .or .u32 16 a3)] from rfl) (Reps.one (show Kd.M (Kd.int .u32) _ _ _ ((a0) % 4294967296) [.int .u32 ((a0) % 4294967296)] from rfl) (Reps.none _ _))) (fun _ hk => hk) trivial (Below.refl _ _) (Nat.le_refl _) (by simp) ?_; intro v407 w12 ho13 hb hg_ hnew_; clear hg_ hnew_; (first | rw [← Ny406.out] at ho13 | (simp only [Int.reduceToNat] at ho13; rw [← Ny406.out] at ho13)); have HO408 := Z (Kd.R_lower ho13 (below_size Z63)); replace HB := Z (below_step Z63 hb); clear hb ho13))
   go_ret
   exact ⟨_, Z9, (Z12 HO408), Z63⟩
 ·replace c5 := Bool.eq_false_iff.mpr c5
  subst c5
  have H1 : (if a0 ≥ (-67108864) then (if a0 ≤ 67108863 then (some (([Go.bits .or .u32 (Go.bits .or .u32 ((((a0) % 4294967296) * 32) % 4294967296) 0) a2] : List Int))) else (some (([Go.bits .or .u32 0 a3, (a0) % 4294967296] : List Int)))) else (some (([Go.bits .or .u32 0 a3, (a0) % 4294967296] : List Int)))) = some r := by rw [if_neg (show ¬ (false = true) by decide)] at H; exact H
  clear H
  have H := H1
  clear H1
  by_cases c14 : a0 ≥ (-67108864)
  ·rw [if_pos c14] at H
   have c14b0 : decide ((-67108864) ≤ a0) = true := decide_eq_true c14
   clear c14
   by_cases c15 : a0 ≤ 67108863
   ·rw [if_pos c15] at H
    have c15b0 : decide (a0 ≤ 67108863) = true := decide_eq_true c15
    clear c15
    obtain ⟨y409, hy409⟩ : ∃ y_ : List Int, y_ = (([Go.bits .or .u32 (Go.bits .or .u32 ((((a0) % 4294967296) * 32) % 4294967296) 0) a2] : List Int)) := ⟨_, rfl⟩
    replace H : (some y409) = some r := by first | (rw [hy409]; with_reducible exact H) | (have H2_ := (Option.bind_some _ _).symm.trans H; rw [hy409]; with_reducible exact H2_) | (have H2_ := (Option.bind_some _ _).symm.trans H; with_reducible exact H2_) | with_reducible exact H | (rw [hy409]; exact H) | exact H
    have Ny409 := Aside0.mk hy409
    clear hy409
    obtain rfl := Option.some.inj H
    go_enter Try.func79, Try.ntmps79
    go_wp2_with (first | ((with_reducible refine gate_dst (N := 24) rfl ?_); refine Kd.R_lit (Kd.int .u32) _ 47 (by rfl) (N := 24) (by rfl) (xs := ([Go.bits .or .u32 (Go.bits .or .u32 ((((a0) % 4294967296) * 32) % 4294967296) 0) a2] : List Int)) (inner := [.int .u32 (Go.bits .or .u32 (Go.bits .or .u32 ((((a0) % 4294967296) * 32) % 4294967296) 0) a2)]) (ok := fun _ => True) (okp := fun _ => True) Z7 (Reps.one (show Kd.M (Kd.int .u32) _ _ _ (Go.bits .or .u32 (Go.bits .or .u32 ((((a0) % 4294967296) * 32) % 4294967296) 0) a2) [.int .u32 (Go.bits .or .u32 (Go.bits .or .u32 ((((a0) % 4294967296) * 32) % 4294967296) 0) a2)] from rfl) (Reps.none _ _)) (fun _ hk => hk) trivial (Below.refl _ _) (Nat.le_refl _) (by simp) ?_; intro v410 w16 ho17 hb hg_ hnew_; clear hg_ hnew_; (first | rw [← Ny409.out] at ho17 | (simp only [Int.reduceToNat] at ho17; rw [← Ny409.out] at ho17)); have HO411 := Z (Kd.R_lower ho17 (below_size Z63)); replace HB := Z (below_step Z63 hb); clear hb ho17))
    go_ret
    exact ⟨_, Z9, (Z12 HO411), Z63⟩
   ·rw [if_neg c15] at H
    have c15b0 : decide (a0 ≤ 67108863) = false := decide_eq_false c15
    clear c15
    obtain ⟨y412, hy412⟩ : ∃ y_ : List Int, y_ = (([Go.bits .or .u32 0 a3, (a0) % 4294967296] : List Int)) := ⟨_, rfl⟩
    replace H : (some y412) = some r := by first | (rw [hy412]; with_reducible exact H) | (have H2_ := (Option.bind_some _ _).symm.trans H; rw [hy412]; with_reducible exact H2_) | (have H2_ := (Option.bind_some _ _).symm.trans H; with_reducible exact H2_) | with_reducible exact H | (rw [hy412]; exact H) | exact H
    have Ny412 := Aside0.mk hy412
    clear hy412
    obtain rfl := Option.some.inj H
    go_enter Try.func79, Try.ntmps79
    go_wp2_with (first | ((with_reducible refine gate_dst (N := 30) rfl ?_); refine Kd.R_lit (Kd.int .u32) _ 47 (by rfl) (N := 30) (by rfl) (xs := ([Go.bits .or .u32 0 a3, (a0) % 4294967296] : List Int)) (inner := [.int .u32 (Go.bits .or .u32 0 a3), .int .u32 ((a0) % 4294967296)]) (ok := fun _ => True) (okp := fun _ => True) Z7 (Reps.one (show Kd.M (Kd.int .u32) _ _ _ (Go.bits .or .u32 0 a3) [.int .u32 (Go.bits .or .u32 0 a3)] from rfl) (Reps.one (show Kd.M (Kd.int .u32) _ _ _ ((a0) % 4294967296) [.int .u32 ((a0) % 4294967296)] from rfl) (Reps.none _ _))) (fun _ hk => hk) trivial (Below.refl _ _) (Nat.le_refl _) (by simp) ?_; intro v413 w18 ho19 hb hg_ hnew_; clear hg_ hnew_; (first | rw [← Ny412.out] at ho19 | (simp only [Int.reduceToNat] at ho19; rw [← Ny412.out] at ho19)); have HO414 := Z (Kd.R_lower ho19 (below_size Z63)); replace HB := Z (below_step Z63 hb); clear hb ho19))
    go_ret
    exact ⟨_, Z9, (Z12 HO414), Z63⟩
  ·rw [if_neg c14] at H
   have c14b0 : decide ((-67108864) ≤ a0) = false := decide_eq_false c14
   clear c14
   obtain ⟨y415, hy415⟩ : ∃ y_ : List Int, y_ = (([Go.bits .or .u32 0 a3, (a0) % 4294967296] : List Int)) := ⟨_, rfl⟩
   replace H : (some y415) = some r := by first | (rw [hy415]; with_reducible exact H) | (have H2_ := (Option.bind_some _ _).symm.trans H; rw [hy415]; with_reducible exact H2_) | (have H2_ := (Option.bind_some _ _).symm.trans H; with_reducible exact H2_) | with_reducible exact H | (rw [hy415]; exact H) | exact H
   have Ny415 := Aside0.mk hy415
   clear hy415
   obtain rfl := Option.some.inj H
   go_enter Try.func79, Try.ntmps79
   go_wp2_with (first | ((with_reducible refine gate_dst (N := 30) rfl ?_); refine Kd.R_lit (Kd.int .u32) _ 47 (by rfl) (N := 30) (by rfl) (xs := ([Go.bits .or .u32 0 a3, (a0) % 4294967296] : List Int)) (inner := [.int .u32 (Go.bits .or .u32 0 a3), .int .u32 ((a0) % 4294967296)]) (ok := fun _ => True) (okp := fun _ => True) Z7 (Reps.one (show Kd.M (Kd.int .u32) _ _ _ (Go.bits .or .u32 0 a3) [.int .u32 (Go.bits .or .u32 0 a3)] from rfl) (Reps.one (show Kd.M (Kd.int .u32) _ _ _ ((a0) % 4294967296) [.int .u32 ((a0) % 4294967296)] from rfl) (Reps.none _ _))) (fun _ hk => hk) trivial (Below.refl _ _) (Nat.le_refl _) (by simp) ?_; intro v416 w20 ho21 hb hg_ hnew_; clear hg_ hnew_; (first | rw [← Ny415.out] at ho21 | (simp only [Int.reduceToNat] at ho21; rw [← Ny415.out] at ho21)); have HO417 := Z (Kd.R_lower ho21 (below_size Z63)); replace HB := Z (below_step Z63 hb); clear hb ho21))
   go_ret
   exact ⟨_, Z9, (Z12 HO417), Z63⟩

end Go.Proofs.Ytkkiibjnpkjijaa.QFnCells
