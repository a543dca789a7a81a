/-
Plain functions for the Go functions that a law reaches, each with a proof that the translation's call comes to just that; no conditions beyond those written in each.
-/
import Derived.Test.YtfjmpdcflnaogaaGreatDoorSFnNotes
import Derived.Test.YtfjmpdcflnaogaaGreatDoorQFnNotesx3
import Derived.Test.YtfjmpdcflnaogaaGreatDoorQFnNotesx1
namespace Go.Proofs.YtfjmpdcflnaogaaGreatDoor.QFnNotes
open Go.RowKit Go.Proofs.YtfjmpdcflnaogaaGreatDoorW.PrintWords Go.Proofs.YtfjmpdcflnaogaaGreatDoorW.PrintLast Go.Proofs.YtfjmpdcflnaogaaGreatDoorW.PrintMore
attribute [local go_sem] max2_int min2_int max_two min_two max_three min_three max_four min_four   -- for this text's walks alone
set_option linter.unusedVariables false
set_option maxHeartbeats 8000000
set_option maxRecDepth 100000
set_option linter.unusedSimpArgs false

def impl_NameOk.l0 : Nat → ByteArray → Int → Int → Option (Bool)
 | 0, _, _, _ => none
 | k + 1, x0, x5, x6 => if x6 < x5 then (if 0 ≤ x6 then (if x6 < (x0.size : Int) then ((impl_LetterOf.f (bt x0 x6)).bind fun t380 => (if t380 < 1 then (some false) else (impl_NameOk.l0 k x0 x5 (wrap64 (x6 + 1))))) else (none)) else (none)) else ((impl_within.f (x0.size : Int) 1 24).bind fun t381 => (some t381))
def impl_NameOk.f (k : Nat) (a0 : ByteArray) : Option (Bool) := impl_NameOk.l0 k a0 (a0.size : Int) 0
theorem impl_NameOk.calls (k : Nat) (a0 : ByteArray) (r : Bool) (w : World) (h : impl_NameOk.f k a0 = some r) :
  Calls Tryz.prog 88 #[.string a0] w fun e w' => e = .returned (.bool r) ∧ Drawn0 w w' := by
 unfold impl_NameOk.f at h; have H := h; clear h; have H' := Aside0.mk H; clear H; go_enter Tryz.func88, Tryz.ntmps88
 go_wp2
 go_loopg [6] k (fun kq v6 w' => ∃ (x6_1 : Int), v6 = .int .i64 x6_1 ∧ Aside0 (impl_NameOk.l0 kq a0 (a0.size : Int) x6_1 = some r) ∧ Aside0 (kq ≤ k) ∧ Drawn0 w w')
 case atStart => exact ⟨(0), Z2, H', ⟨Nat.le_refl _⟩, Z3⟩
 case round =>
  clear H'; obtain ⟨x6_1, rfl, HA, HK1, ⟨m1, rfl⟩⟩ := hrel
  cases gk with
  | zero => exact absurd HA.out (by simp [impl_NameOk.l0])
  | succ k1 =>
   have H := HA.out; clear HA; simp only [impl_NameOk.l0] at H; replace H := Yi H; rcases H with ⟨c2, H⟩ | ⟨c2, H⟩
   ·have c2b0 := decide_eq_true c2; clear c2; replace H := Yg H; obtain ⟨c3, H⟩ := H; have c3b0 := decide_eq_true c3; clear c3; replace H := Yg H; obtain ⟨c4, H⟩ := H; have c4b0 := decide_eq_true c4; clear c4; replace H := Yd H; obtain ⟨t380, A6, H⟩ := H; (try dsimp only at H); replace H := Yi H; rcases H with ⟨c7, H⟩ | ⟨c7, H⟩
    ·have c7b0 := decide_eq_true c7; clear c7; obtain rfl := Option.some.inj H; have p5 : 0 ≤ (x6_1 : Int) := of_decide_eq_true Z5; have q5 : x6_1 < (a0.size : Int) := of_decide_eq_true Z5; have hx5 := bt_at a0 x6_1; replace p5 := eq_true p5; replace q5 := eq_true q5
     go_wp2_with (first | ((with_reducible refine gate_callee (f := 109) rfl ?_); refine goesL_ (some 12) rfl rfl Tryz.func109 Z0 rfl #[.int .u8 (bt a0 x6_1)] rfl Z10 ?_; (with_reducible refine (impl_LetterOf.calls (bt a0 x6_1) t380 _ A6.out).mono ?_); rintro e w' ⟨rfl, ⟨nd, rfl⟩⟩; refine ⟨_, rfl, ?_⟩))
     go_ret
     exact ⟨Z2, Z3⟩
    have c7b0 := decide_eq_false c7; clear c7; have H' := Aside0.mk H; clear H; have p5 : 0 ≤ (x6_1 : Int) := of_decide_eq_true Z5; have q5 : x6_1 < (a0.size : Int) := of_decide_eq_true Z5; have hx5 := bt_at a0 x6_1; replace p5 := eq_true p5; replace q5 := eq_true q5
    go_wp2_with (first | ((with_reducible refine gate_callee (f := 109) rfl ?_); refine goesL_ (some 12) rfl rfl Tryz.func109 Z0 rfl #[.int .u8 (bt a0 x6_1)] rfl Z10 ?_; (with_reducible refine (impl_LetterOf.calls (bt a0 x6_1) t380 _ A6.out).mono ?_); rintro e w' ⟨rfl, ⟨nd, rfl⟩⟩; refine ⟨_, rfl, ?_⟩))
    go_roundg k1
    case measure => have := HK1.out; omega
    case rel => exact ⟨(wrap64 (x6_1 + 1)), Z2, H', ⟨Z6⟩, Z3⟩
   have c2b0 := decide_eq_false c2; clear c2; replace H := Yd H; obtain ⟨t381, A8, H⟩ := H; (try dsimp only at H); obtain rfl := Option.some.inj H
   go_wp2_with (first | ((with_reducible refine gate_callee (f := 110) rfl ?_); refine goesL_ (some 17) rfl rfl Tryz.func110 Z0 rfl #[.int .i64 (a0.size : Int), .int .i64 1, .int .i64 24] rfl Z10 ?_; (with_reducible refine (impl_within.calls (a0.size : Int) 1 24 t381 _ A8.out).mono ?_); rintro e w' ⟨rfl, ⟨nd, rfl⟩⟩; refine ⟨_, rfl, ?_⟩))
   go_ret
   exact ⟨Z2, Z3⟩

def impl_WidthOf.f (a0 : Int) : Option (Int) := (impl_within.f a0 0 7).bind fun t382 => (if t382 = true then (some 4) else ((impl_within.f a0 8 15).bind fun t383 => (if t383 = true then (some 5) else ((impl_within.f a0 16 47).bind fun t384 => (if t384 = true then (some 7) else (some 0))))))
theorem impl_WidthOf.calls (a0 : Int) (r : Int) (w : World) (h : impl_WidthOf.f a0 = some r) :
  Calls Tryz.prog 111 #[.int .i64 a0] w fun e w' => e = .returned (.int .i64 r) ∧ Drawn0 w w' := by
 unfold impl_WidthOf.f at h; have H := h; clear h; replace H := Yd H; obtain ⟨t382, A2, H⟩ := H; (try dsimp only at H); by_cases c3 : t382 = true
 ·subst c3; replace H := Yt H; obtain rfl := Option.some.inj H; go_enter Tryz.func111, Tryz.ntmps111
  go_wp2_with (first | ((with_reducible refine gate_callee (f := 110) rfl ?_); refine goesL_ (some 5) rfl rfl Tryz.func110 Z0 rfl #[.int .i64 a0, .int .i64 0, .int .i64 7] rfl Z10 ?_; (with_reducible refine (impl_within.calls a0 0 7 true _ A2.out).mono ?_); rintro e w' ⟨rfl, ⟨nd, rfl⟩⟩; refine ⟨_, rfl, ?_⟩))
  go_ret
  exact ⟨Z2, Z3⟩
 replace c3 := Bool.eq_false_iff.mpr c3; subst c3; replace H := Yf H; replace H := Yd H; obtain ⟨t383, A4, H⟩ := H; (try dsimp only at H); by_cases c5 : t383 = true
 ·subst c5; replace H := Yt H; obtain rfl := Option.some.inj H; go_enter Tryz.func111, Tryz.ntmps111
  go_wp2_with (first | ((with_reducible refine gate_callee (f := 110) rfl ?_); refine goesL_ (some 5) rfl rfl Tryz.func110 Z0 rfl #[.int .i64 a0, .int .i64 0, .int .i64 7] rfl Z10 ?_; (with_reducible refine (impl_within.calls a0 0 7 false _ A2.out).mono ?_); rintro e w' ⟨rfl, ⟨nd, rfl⟩⟩; refine ⟨_, rfl, ?_⟩) | ((with_reducible refine gate_callee (f := 110) rfl ?_); refine goesL_ (some 8) rfl rfl Tryz.func110 Z0 rfl #[.int .i64 a0, .int .i64 8, .int .i64 15] rfl Z10 ?_; (with_reducible refine (impl_within.calls a0 8 15 true _ A4.out).mono ?_); rintro e w' ⟨rfl, ⟨nd, rfl⟩⟩; refine ⟨_, rfl, ?_⟩))
  go_ret
  exact ⟨Z2, Z3⟩
 replace c5 := Bool.eq_false_iff.mpr c5; subst c5; replace H := Yf H; replace H := Yd H; obtain ⟨t384, A6, H⟩ := H; (try dsimp only at H); by_cases c7 : t384 = true
 ·subst c7; replace H := Yt H; obtain rfl := Option.some.inj H; go_enter Tryz.func111, Tryz.ntmps111
  go_wp2_with (first | ((with_reducible refine gate_callee (f := 110) rfl ?_); refine goesL_ (some 5) rfl rfl Tryz.func110 Z0 rfl #[.int .i64 a0, .int .i64 0, .int .i64 7] rfl Z10 ?_; (with_reducible refine (impl_within.calls a0 0 7 false _ A2.out).mono ?_); rintro e w' ⟨rfl, ⟨nd, rfl⟩⟩; refine ⟨_, rfl, ?_⟩) | ((with_reducible refine gate_callee (f := 110) rfl ?_); refine goesL_ (some 8) rfl rfl Tryz.func110 Z0 rfl #[.int .i64 a0, .int .i64 8, .int .i64 15] rfl Z10 ?_; (with_reducible refine (impl_within.calls a0 8 15 false _ A4.out).mono ?_); rintro e w' ⟨rfl, ⟨nd, rfl⟩⟩; refine ⟨_, rfl, ?_⟩) | ((with_reducible refine gate_callee (f := 110) rfl ?_); refine goesL_ (some 11) rfl rfl Tryz.func110 Z0 rfl #[.int .i64 a0, .int .i64 16, .int .i64 47] rfl Z10 ?_; (with_reducible refine (impl_within.calls a0 16 47 true _ A6.out).mono ?_); rintro e w' ⟨rfl, ⟨nd, rfl⟩⟩; refine ⟨_, rfl, ?_⟩))
  go_ret
  exact ⟨Z2, Z3⟩
 replace c7 := Bool.eq_false_iff.mpr c7; subst c7; replace H := Yf H; obtain rfl := Option.some.inj H; go_enter Tryz.func111, Tryz.ntmps111
 go_wp2_with (first | ((with_reducible refine gate_callee (f := 110) rfl ?_); refine goesL_ (some 5) rfl rfl Tryz.func110 Z0 rfl #[.int .i64 a0, .int .i64 0, .int .i64 7] rfl Z10 ?_; (with_reducible refine (impl_within.calls a0 0 7 false _ A2.out).mono ?_); rintro e w' ⟨rfl, ⟨nd, rfl⟩⟩; refine ⟨_, rfl, ?_⟩) | ((with_reducible refine gate_callee (f := 110) rfl ?_); refine goesL_ (some 8) rfl rfl Tryz.func110 Z0 rfl #[.int .i64 a0, .int .i64 8, .int .i64 15] rfl Z10 ?_; (with_reducible refine (impl_within.calls a0 8 15 false _ A4.out).mono ?_); rintro e w' ⟨rfl, ⟨nd, rfl⟩⟩; refine ⟨_, rfl, ?_⟩) | ((with_reducible refine gate_callee (f := 110) rfl ?_); refine goesL_ (some 11) rfl rfl Tryz.func110 Z0 rfl #[.int .i64 a0, .int .i64 16, .int .i64 47] rfl Z10 ?_; (with_reducible refine (impl_within.calls a0 16 47 false _ A6.out).mono ?_); rintro e w' ⟨rfl, ⟨nd, rfl⟩⟩; refine ⟨_, rfl, ?_⟩))
 go_ret
 exact ⟨Z2, Z3⟩

def impl_BitsOf.f (a0 : Int) : Option (Int) := (impl_WidthOf.f a0).bind fun t385 => (if t385 = 4 then (some ((a0) % 4294967296)) else (if t385 = 5 then (some ((((a0) % 4294967296) + 8) % 4294967296)) else (if t385 = 7 then (some ((((a0) % 4294967296) + 80) % 4294967296)) else (some 0))))
theorem impl_BitsOf.calls (a0 : Int) (r : Int) (w : World) (h : impl_BitsOf.f a0 = some r) :
  Calls Tryz.prog 112 #[.int .i64 a0] w fun e w' => e = .returned (.int .u32 r) ∧ Drawn0 w w' := by
 unfold impl_BitsOf.f at h; have H := h; clear h; replace H := Yd H; obtain ⟨t385, A2, H⟩ := H; (try dsimp only at H); replace H := Yi H; rcases H with ⟨c3, H⟩ | ⟨c3, H⟩
 ·obtain ⟨c3b0, c3b1⟩ := Ye c3; clear c3; obtain rfl := Option.some.inj H; go_enter Tryz.func112, Tryz.ntmps112
  go_wp2_with (first | ((with_reducible refine gate_callee (f := 111) rfl ?_); refine goesL_ (some 4) rfl rfl Tryz.func111 Z0 rfl #[.int .i64 a0] rfl Z10 ?_; (with_reducible refine (impl_WidthOf.calls a0 t385 _ A2.out).mono ?_); rintro e w' ⟨rfl, ⟨nd, rfl⟩⟩; refine ⟨_, rfl, ?_⟩))
  go_ret
  exact ⟨Z2, Z3⟩
 obtain ⟨c3b0, c3b1⟩ := Yn c3; replace H := Yi H; rcases H with ⟨c4, H⟩ | ⟨c4, H⟩
 ·obtain ⟨c4b0, c4b1⟩ := Ye c4; clear c4; obtain rfl := Option.some.inj H; go_enter Tryz.func112, Tryz.ntmps112
  go_wp2_with (first | ((with_reducible refine gate_callee (f := 111) rfl ?_); refine goesL_ (some 4) rfl rfl Tryz.func111 Z0 rfl #[.int .i64 a0] rfl Z10 ?_; (with_reducible refine (impl_WidthOf.calls a0 t385 _ A2.out).mono ?_); rintro e w' ⟨rfl, ⟨nd, rfl⟩⟩; refine ⟨_, rfl, ?_⟩))
  go_ret
  exact ⟨Z2, Z3⟩
 obtain ⟨c4b0, c4b1⟩ := Yn c4; replace H := Yi H; rcases H with ⟨c5, H⟩ | ⟨c5, H⟩
 ·obtain ⟨c5b0, c5b1⟩ := Ye c5; clear c5; obtain rfl := Option.some.inj H; go_enter Tryz.func112, Tryz.ntmps112
  go_wp2_with (first | ((with_reducible refine gate_callee (f := 111) rfl ?_); refine goesL_ (some 4) rfl rfl Tryz.func111 Z0 rfl #[.int .i64 a0] rfl Z10 ?_; (with_reducible refine (impl_WidthOf.calls a0 t385 _ A2.out).mono ?_); rintro e w' ⟨rfl, ⟨nd, rfl⟩⟩; refine ⟨_, rfl, ?_⟩))
  go_ret
  exact ⟨Z2, Z3⟩
 obtain ⟨c5b0, c5b1⟩ := Yn c5; obtain rfl := Option.some.inj H; go_enter Tryz.func112, Tryz.ntmps112
 go_wp2_with (first | ((with_reducible refine gate_callee (f := 111) rfl ?_); refine goesL_ (some 4) rfl rfl Tryz.func111 Z0 rfl #[.int .i64 a0] rfl Z10 ?_; (with_reducible refine (impl_WidthOf.calls a0 t385 _ A2.out).mono ?_); rintro e w' ⟨rfl, ⟨nd, rfl⟩⟩; refine ⟨_, rfl, ?_⟩))
 go_ret
 exact ⟨Z2, Z3⟩

def impl_PackOne.l0 : Nat → ByteArray → Int → Int → Int → Int → Int → Option (Int × Int)
 | 0, _, _, _, _, _, _ => none
 | k + 1, x0, x4, x5, x6, x13, x14 => if x14 < x13 then (if 0 ≤ x14 then (if x14 < (x0.size : Int) then ((impl_LetterOf.f (bt x0 x14)).bind fun t387 => ((impl_WidthOf.f t387).bind fun t388 => (if t388 > x5 then (some (x4, x6)) else ((impl_WidthOf.f t387).bind fun t389 => ((impl_BitsOf.f t387).bind fun t390 => (if 0 ≤ (wrap64 (x5 - t389)) then (impl_PackOne.l0 k x0 (Go.bits .or .u32 x4 (shl .u32 t390 (wrap64 (x5 - t389)))) (wrap64 (x5 - t389)) (wrap64 (x6 + 1)) x13 (wrap64 (x14 + 1))) else (none))))))) else (none)) else (none)) else (some (x4, x6))
def impl_PackOne.f (k : Nat) (a0 : ByteArray) : Option (Int × Int) := (impl_NameOk.f k a0).bind fun t386 => (if t386 = true then (impl_PackOne.l0 k a0 0 28 0 (a0.size : Int) 0) else (some (0, 0)))
theorem impl_PackOne.calls (k : Nat) (a0 : ByteArray) (r1 : Int) (r2 : Int) (w : World) (h : impl_PackOne.f k a0 = some (r1, r2)) :
  Calls Tryz.prog 89 #[.string a0] w fun e w' => e = .returned (.tuple #[.int .u32 r1, .int .i64 r2]) ∧ Drawn0 w w' := by
 unfold impl_PackOne.f at h; have H := h; clear h; replace H := Yd H; obtain ⟨t386, A2, H⟩ := H; (try dsimp only at H); by_cases c3 : t386 = true
 ·subst c3; replace H := Yt H; have H' := Aside0.mk H; clear H; go_enter Tryz.func89, Tryz.ntmps89
  go_wp2_with (first | ((with_reducible refine gate_callee (f := 88) rfl ?_); refine goesL_ (some 10) rfl rfl Tryz.func88 Z0 rfl #[.string a0] rfl Z10 ?_; (with_reducible refine (impl_NameOk.calls k a0 true _ A2.out).mono ?_); rintro e w' ⟨rfl, ⟨nd, rfl⟩⟩; refine ⟨_, rfl, ?_⟩))
  go_loopg [4, 5, 6, 14] k (fun kq v4 v5 v6 v14 w' => ∃ (x4_1 : Int) (x5_1 : Int) (x6_1 : Int) (x14_1 : Int), v4 = .int .u32 x4_1 ∧ v5 = .int .i64 x5_1 ∧ v6 = .int .i64 x6_1 ∧ v14 = .int .i64 x14_1 ∧ Aside0 (impl_PackOne.l0 kq a0 x4_1 x5_1 x6_1 (a0.size : Int) x14_1 = some (r1, r2)) ∧ Aside0 (kq ≤ k) ∧ Drawn0 w w')
  case atStart => exact ⟨(0), (28), (0), (0), Z2, Z2, Z2, Z2, H', ⟨Nat.le_refl _⟩, Z3⟩
  case round =>
   clear H'; (try clear p2); (try clear c3); obtain ⟨x4_1, x5_1, x6_1, x14_1, rfl, rfl, rfl, rfl, HA, HK1, ⟨m1, rfl⟩⟩ := hrel
   cases gk with
   | zero => exact absurd HA.out (by simp [impl_PackOne.l0])
   | succ k1 =>
    have H := HA.out; clear HA; simp only [impl_PackOne.l0] at H; replace H := Yi H; rcases H with ⟨c4, H⟩ | ⟨c4, H⟩
    ·have c4b0 := decide_eq_true c4; clear c4; replace H := Yg H; obtain ⟨c5, H⟩ := H; have c5b0 := decide_eq_true c5; clear c5; replace H := Yg H; obtain ⟨c6, H⟩ := H; have c6b0 := decide_eq_true c6; clear c6; replace H := Yd H; obtain ⟨t387, A8, H⟩ := H; (try dsimp only at H); replace H := Yd H; obtain ⟨t388, A9, H⟩ := H; (try dsimp only at H); replace H := Yi H; rcases H with ⟨c10, H⟩ | ⟨c10, H⟩
     ·have c10b0 : decide (x5_1 < t388) = true := decide_eq_true c10; clear c10; simp only [Option.some.injEq, Prod.mk.injEq] at H; obtain ⟨rfl, rfl⟩ := H; have p7 : 0 ≤ (x14_1 : Int) := of_decide_eq_true Z5; have q7 : x14_1 < (a0.size : Int) := of_decide_eq_true Z5; have hx7 := bt_at a0 x14_1; replace p7 := eq_true p7; replace q7 := eq_true q7
      go_wp2_with (first | ((with_reducible refine gate_callee (f := 109) rfl ?_); refine goesL_ (some 20) rfl rfl Tryz.func109 Z0 rfl #[.int .u8 (bt a0 x14_1)] rfl Z10 ?_; (with_reducible refine (impl_LetterOf.calls (bt a0 x14_1) t387 _ A8.out).mono ?_); rintro e w' ⟨rfl, ⟨nd, rfl⟩⟩; refine ⟨_, rfl, ?_⟩) | ((with_reducible refine gate_callee (f := 111) rfl ?_); refine goesL_ (some 22) rfl rfl Tryz.func111 Z0 rfl #[.int .i64 t387] rfl Z10 ?_; (with_reducible refine (impl_WidthOf.calls t387 t388 _ A9.out).mono ?_); rintro e w' ⟨rfl, ⟨nd, rfl⟩⟩; refine ⟨_, rfl, ?_⟩))
      go_ret2
      exact ⟨Z2, Z3⟩
     have c10b0 : decide (x5_1 < t388) = false := decide_eq_false c10; clear c10; replace H := Yd H; obtain ⟨t389, A11, H⟩ := H; (try dsimp only at H); replace H := Yd H; obtain ⟨t390, A12, H⟩ := H; (try dsimp only at H); obtain ⟨ji13, hji13⟩ : ∃ j_ : Int, (wrap64 (x5_1 - t389)) = j_ := ⟨_, rfl⟩; replace H : (if 0 ≤ (ji13) then (impl_PackOne.l0 k1 a0 (Go.bits .or .u32 x4_1 (shl .u32 t390 (ji13))) ji13 (wrap64 (x6_1 + 1)) (a0.size : Int) (wrap64 (x14_1 + 1))) else (none)) = some (r1, r2) := Z19
     (try rw [hji13] at A8)
     (try rw [hji13] at A9)
     (try rw [hji13] at A11)
     (try rw [hji13] at A12)
     have hji13w : (IntKind.i64.wrap (x5_1 - t389)) = ji13 := (i64_w _).trans hji13; replace H := Yg H; obtain ⟨c14, H⟩ := H; have c14b0 := eq_true c14; have c14b1 := decide_eq_true c14; clear c14; obtain ⟨ji15, hji15⟩ : ∃ j_ : Int, (shl .u32 t390 (ji13)) = j_ := ⟨_, rfl⟩; replace H : (impl_PackOne.l0 k1 a0 (Go.bits .or .u32 x4_1 (ji15)) ji13 (wrap64 (x6_1 + 1)) (a0.size : Int) (wrap64 (x14_1 + 1))) = some (r1, r2) := Z20
     (try rw [hji15] at A8)
     (try rw [hji15] at A9)
     (try rw [hji15] at A11)
     (try rw [hji15] at A12)
     have hji15_ : (IntKind.u32.wrap (t390 * 2 ^ min (ji13).toNat 32)) = ji15 := hji15; have hji15z : (ji13) ≤ 32 → (IntKind.u32.wrap (t390 * 2 ^ (ji13).toNat)) = ji15 := shl_small hji15; have H' := Aside0.mk H; clear H; have p7 : 0 ≤ (x14_1 : Int) := of_decide_eq_true Z5; have q7 : x14_1 < (a0.size : Int) := of_decide_eq_true Z5; have hx7 := bt_at a0 x14_1; replace p7 := eq_true p7; replace q7 := eq_true q7
     go_wp2_with (first | ((with_reducible refine gate_callee (f := 109) rfl ?_); refine goesL_ (some 20) rfl rfl Tryz.func109 Z0 rfl #[.int .u8 (bt a0 x14_1)] rfl Z10 ?_; (with_reducible refine (impl_LetterOf.calls (bt a0 x14_1) t387 _ A8.out).mono ?_); rintro e w' ⟨rfl, ⟨nd, rfl⟩⟩; refine ⟨_, rfl, ?_⟩) | ((with_reducible refine gate_callee (f := 111) rfl ?_); refine goesL_ (some 22) rfl rfl Tryz.func111 Z0 rfl #[.int .i64 t387] rfl Z10 ?_; (with_reducible refine (impl_WidthOf.calls t387 t388 _ A9.out).mono ?_); rintro e w' ⟨rfl, ⟨nd, rfl⟩⟩; refine ⟨_, rfl, ?_⟩) | ((with_reducible refine gate_callee (f := 111) rfl ?_); refine goesL_ (some 27) rfl rfl Tryz.func111 Z0 rfl #[.int .i64 t387] rfl Z10 ?_; (with_reducible refine (impl_WidthOf.calls t387 t389 _ A11.out).mono ?_); rintro e w' ⟨rfl, ⟨nd, rfl⟩⟩; refine ⟨_, rfl, ?_⟩) | ((with_reducible refine gate_callee (f := 112) rfl ?_); refine goesL_ (some 31) rfl rfl Tryz.func112 Z0 rfl #[.int .i64 t387] rfl Z10 ?_; (with_reducible refine (impl_BitsOf.calls t387 t390 _ A12.out).mono ?_); rintro e w' ⟨rfl, ⟨nd, rfl⟩⟩; refine ⟨_, rfl, ?_⟩))
     go_roundg k1
     case measure => have := HK1.out; omega
     case rel => exact ⟨(Go.bits .or .u32 x4_1 (ji15)), (ji13), (wrap64 (x6_1 + 1)), (wrap64 (x14_1 + 1)), (by first | rfl | (simp; done) | (simp only [← hji15] <;> (first | rfl | simp)) | (simp [*]; done)), (by first | rfl | (simp; done) | (simp only [← hji13] <;> (first | rfl | simp)) | (simp [*]; done)), Z2, Z2, H', ⟨Z6⟩, Z3⟩
    have c4b0 := decide_eq_false c4; clear c4; simp only [Option.some.injEq, Prod.mk.injEq] at H; obtain ⟨rfl, rfl⟩ := H
    go_wp2
    go_ret2
    exact ⟨Z2, Z3⟩
 replace c3 := Bool.eq_false_iff.mpr c3; subst c3; replace H := Yf H; simp only [Option.some.injEq, Prod.mk.injEq] at H; obtain ⟨rfl, rfl⟩ := H; go_enter Tryz.func89, Tryz.ntmps89
 go_wp2_with (first | ((with_reducible refine gate_callee (f := 88) rfl ?_); refine goesL_ (some 10) rfl rfl Tryz.func88 Z0 rfl #[.string a0] rfl Z10 ?_; (with_reducible refine (impl_NameOk.calls k a0 false _ A2.out).mono ?_); rintro e w' ⟨rfl, ⟨nd, rfl⟩⟩; refine ⟨_, rfl, ?_⟩))
 go_ret2
 exact ⟨Z2, Z3⟩

def impl_Pack.l0 : Nat → ByteArray → List Int → Option (List Int)
 | 0, _, _ => none
 | k + 1, x0, x3 => (impl_NameOk.f k x0).bind fun t394 => (if t394 = true then ((impl_PackOne.f k x0).bind fun bt395 => (if x3.length < 35184372088832 then (if 0 ≤ bt395.2 then (if bt395.2 ≤ (x0.size : Int) then (impl_Pack.l0 k (x0.extract (bt395.2 : Int).toNat x0.size) (x3 ++ [bt395.1])) else (none)) else (none)) else (none))) else (some x3))
def impl_Pack.f (k : Nat) (a0 : ByteArray) : Option (List Int) := impl_Pack.l0 k a0 (([] : List Int))
theorem impl_Pack.calls (k : Nat) (a0 : ByteArray) (r : List Int) (w : World) (h : impl_Pack.f k a0 = some r) :
  Calls Tryz.prog 53 #[.string a0] w fun e w' => ∃ v0_ : Value, e = .returned (v0_) ∧ Kd.R (Kd.int .u32) 44 w' w.heap.size (fun _ => True) v0_ r ∧ Below w.heap.size w w' := by
 have HB := Z (Below.refl w.heap.size w); unfold impl_Pack.f at h; have H := h; clear h; obtain ⟨y391, hy391⟩ : ∃ y_ : List Int, y_ = (([] : List Int)) := ⟨_, rfl⟩; replace H : (impl_Pack.l0 k a0 y391) = some r := Yy hy391 H; have Ny391 := Aside0.mk hy391; clear hy391; have H' := Aside0.mk H; clear H; go_enter Tryz.func53, Tryz.ntmps53
 go_wp2_with (first | ((with_reducible refine gate_dst (N := 6) rfl ?_); refine Kd.R_lit (Kd.int .u32) _ 44 (by rfl) (N := 6) (by rfl) (xs := ([] : List Int)) (inner := []) (ok := fun _ => True) (okp := fun _ => True) Z7 (Reps.none _ _) (fun _ hk => hk) trivial (Below.refl _ _) (Nat.le_refl _) (by simp) ?_; intro v392 w2 ho3 hb hg_ hnew_; clear hg_ hnew_; (first | rw [← Ny391.out] at ho3 | (simp only [Int.reduceToNat] at ho3; rw [← Ny391.out] at ho3)); have HO393 := Z (Kd.R_lower ho3 (below_size Z75)); replace HB := Z (below_step Z75 hb); clear hb ho3))
 go_loopg [0, 3] k (fun kq v0 v3 w' => ∃ (x0_1 : ByteArray) (x3_1 : List Int), v0 = .string x0_1 ∧ Aside0 (impl_Pack.l0 kq x0_1 x3_1 = some r) ∧ Aside0 (kq ≤ k) ∧ Aside0 (Kd.R (Kd.int .u32) 44 w' w.heap.size (fun _ => True) v3 x3_1) ∧ Aside0 (Below w.heap.size w w'))
 case atStart => exact ⟨(a0), (y391), Z2, H', ⟨Nat.le_refl _⟩, ⟨(Z11 HO393)⟩, ⟨Z75⟩⟩
 case round =>
  clear H'; (try clear p2); obtain ⟨x0_1, x3_1, rfl, HA, HK1, HO_3, HB⟩ := hrel
  cases gk with
  | zero => exact absurd HA.out (by simp [impl_Pack.l0])
  | succ k1 =>
   have H := HA.out; clear HA; simp only [impl_Pack.l0] at H; replace H := Yd H; obtain ⟨t394, A4, H⟩ := H; (try dsimp only at H); by_cases c5 : t394 = true
   ·subst c5; replace H := Yt H; replace H := Yd H; obtain ⟨⟨t395, t396⟩, A6, H⟩ := H; (try dsimp only at H); replace H := Yg H; obtain ⟨c7, H⟩ := H; have LMc7 := Aside0.mk c7; clear c7; obtain ⟨y397, hy397⟩ : ∃ y_ : List Int, y_ = (x3_1 ++ [t395]) := ⟨_, rfl⟩; replace H : (if 0 ≤ t396 then (if t396 ≤ (x0_1.size : Int) then (impl_Pack.l0 k1 (x0_1.extract (t396 : Int).toNat x0_1.size) y397) else (none)) else (none)) = some r := Yy hy397 H; have Ny397 := Aside0.mk hy397; clear hy397; replace H := Yg H; obtain ⟨c8, H⟩ := H; have c8b0 := eq_true c8; have c8b1 := decide_eq_true c8; clear c8; replace H := Yg H; obtain ⟨c9, H⟩ := H; have c9b0 := eq_true c9; have c9b1 := decide_eq_true c9; clear c9; have H' := Aside0.mk H; clear H
    go_wp2_with (first | ((with_reducible refine gate_callee (f := 88) rfl ?_); refine goesL_ (some 8) rfl rfl Tryz.func88 Z0 rfl #[.string x0_1] rfl Z10 ?_; (with_reducible refine (impl_NameOk.calls k1 x0_1 true _ A4.out).mono ?_); rintro e w' ⟨rfl, ⟨nd, rfl⟩⟩; refine ⟨_, rfl, ?_⟩) | ((with_reducible refine gate_callee (f := 89) rfl ?_); refine goesL_ (some 11) rfl rfl Tryz.func89 Z0 rfl #[.string x0_1] rfl Z10 ?_; (with_reducible refine (impl_PackOne.calls k1 x0_1 t395 t396 _ A6.out).mono ?_); rintro e w' ⟨rfl, ⟨nd, rfl⟩⟩; refine ⟨_, rfl, ?_⟩) | ((with_reducible refine gate_builtin (b := .append) (xs := #[.tmp 14, .tmp 16]) rfl ?_); at_builtin; refine Kd.R_append (Kd.int .u32) (w0 := w) w.heap.size rfl (.tmp 14) (.tmp 16) 24 44 (.int .u32 0) 4 rfl Tryz.underlying24 info44 rfl (by decide) (by omega) u3 x3_1 t395 [.int .u32 t395] (fun _ => True) (fun _ => False) rfl rfl ?aP (fun _ hk => hk.elim) ?aF ?aO ?aB ?aS ?aL ?_; (case aP => exact rfl); (case aB => exact Z75); (case aF => exact (fun _ _ => trivial)); (case aO => exact (Z11 HO_3)); (case aS => exact (below_size Z75)); (case aL => have := LMc7.out; omega); intro v398 w10 ho hb hg hat; rw [← Ny397.out] at ho; replace HB := Z (hb); have HO399 := Z (ho); clear HO_3; clear ho hb hg hat))
    go_roundg k1
    case measure => have := HK1.out; omega
    case rel => exact ⟨(x0_1.extract (t396 : Int).toNat x0_1.size), (y397), Z2, H', ⟨Z6⟩, ⟨(Z11 HO399)⟩, ⟨Z75⟩⟩
   replace c5 := Bool.eq_false_iff.mpr c5; subst c5; replace H := Yf H; obtain rfl := Option.some.inj H
   go_wp2_with (first | ((with_reducible refine gate_callee (f := 88) rfl ?_); refine goesL_ (some 8) rfl rfl Tryz.func88 Z0 rfl #[.string x0_1] rfl Z10 ?_; (with_reducible refine (impl_NameOk.calls k1 x0_1 false _ A4.out).mono ?_); rintro e w' ⟨rfl, ⟨nd, rfl⟩⟩; refine ⟨_, rfl, ?_⟩))
   go_ret
   exact ⟨_, Z76, (Z11 HO_3), Z75⟩

def impl_numberCells.f (a0 : Int) (a1 : Bool) (a2 : Int) (a3 : Int) : Option (List Int) := if a1 = true then (if a0 ≥ (-67108864) then (if a0 ≤ 67108863 then (some (([Go.bits .or .u32 (Go.bits .or .u32 ((((a0) % 4294967296) * 32) % 4294967296) 16) a2] : List Int))) else (some (([Go.bits .or .u32 16 a3, (a0) % 4294967296] : List Int)))) else (some (([Go.bits .or .u32 16 a3, (a0) % 4294967296] : List Int)))) else (if a0 ≥ (-67108864) then (if a0 ≤ 67108863 then (some (([Go.bits .or .u32 (Go.bits .or .u32 ((((a0) % 4294967296) * 32) % 4294967296) 0) a2] : List Int))) else (some (([Go.bits .or .u32 0 a3, (a0) % 4294967296] : List Int)))) else (some (([Go.bits .or .u32 0 a3, (a0) % 4294967296] : List Int))))
theorem impl_numberCells.calls (a0 : Int) (a1 : Bool) (a2 : Int) (a3 : Int) (r : List Int) (w : World) (h : impl_numberCells.f a0 a1 a2 a3 = some r) :
  Calls Tryz.prog 54 #[.int .i32 a0, .bool a1, .int .u32 a2, .int .u32 a3] w fun e w' => ∃ v0_ : Value, e = .returned (v0_) ∧ Kd.R (Kd.int .u32) 44 w' w.heap.size (fun _ => True) v0_ r ∧ Below w.heap.size w w' := by
 have HB := Z (Below.refl w.heap.size w); unfold impl_numberCells.f at h; have H := h; clear h; by_cases c5 : a1 = true
 ·subst c5; replace H := Yt H; replace H := Yi H; rcases H with ⟨c6, H⟩ | ⟨c6, H⟩
  ·have c6b0 : decide ((-67108864) ≤ a0) = true := decide_eq_true c6; clear c6; replace H := Yi H; rcases H with ⟨c7, H⟩ | ⟨c7, H⟩
   ·have c7b0 := decide_eq_true c7; clear c7; obtain ⟨y400, hy400⟩ : ∃ y_ : List Int, y_ = (([Go.bits .or .u32 (Go.bits .or .u32 ((((a0) % 4294967296) * 32) % 4294967296) 16) a2] : List Int)) := ⟨_, rfl⟩; replace H : (some y400) = some r := Yy hy400 H; have Ny400 := Aside0.mk hy400; clear hy400; obtain rfl := Option.some.inj H; go_enter Tryz.func54, Tryz.ntmps54
    go_wp2_with (first | ((with_reducible refine gate_dst (N := 24) rfl ?_); refine Kd.R_lit (Kd.int .u32) _ 44 (by rfl) (N := 24) (by rfl) (xs := ([Go.bits .or .u32 (Go.bits .or .u32 ((((a0) % 4294967296) * 32) % 4294967296) 16) a2] : List Int)) (inner := [.int .u32 (Go.bits .or .u32 (Go.bits .or .u32 ((((a0) % 4294967296) * 32) % 4294967296) 16) a2)]) (ok := fun _ => True) (okp := fun _ => True) Z7 (Reps.one (show Kd.M (Kd.int .u32) _ _ _ (Go.bits .or .u32 (Go.bits .or .u32 ((((a0) % 4294967296) * 32) % 4294967296) 16) a2) [.int .u32 (Go.bits .or .u32 (Go.bits .or .u32 ((((a0) % 4294967296) * 32) % 4294967296) 16) a2)] from rfl) (Reps.none _ _)) (fun _ hk => hk) trivial (Below.refl _ _) (Nat.le_refl _) (by simp) ?_; intro v401 w8 ho9 hb hg_ hnew_; clear hg_ hnew_; (first | rw [← Ny400.out] at ho9 | (simp only [Int.reduceToNat] at ho9; rw [← Ny400.out] at ho9)); have HO402 := Z (Kd.R_lower ho9 (below_size Z75)); replace HB := Z (below_step Z75 hb); clear hb ho9))
    go_ret
    exact ⟨_, Z76, (Z11 HO402), Z75⟩
   have c7b0 := decide_eq_false c7; clear c7; obtain ⟨y403, hy403⟩ : ∃ y_ : List Int, y_ = (([Go.bits .or .u32 16 a3, (a0) % 4294967296] : List Int)) := ⟨_, rfl⟩; replace H : (some y403) = some r := Yy hy403 H; have Ny403 := Aside0.mk hy403; clear hy403; obtain rfl := Option.some.inj H; go_enter Tryz.func54, Tryz.ntmps54
   go_wp2_with (first | ((with_reducible refine gate_dst (N := 30) rfl ?_); refine Kd.R_lit (Kd.int .u32) _ 44 (by rfl) (N := 30) (by rfl) (xs := ([Go.bits .or .u32 16 a3, (a0) % 4294967296] : List Int)) (inner := [.int .u32 (Go.bits .or .u32 16 a3), .int .u32 ((a0) % 4294967296)]) (ok := fun _ => True) (okp := fun _ => True) Z7 (Reps.one (show Kd.M (Kd.int .u32) _ _ _ (Go.bits .or .u32 16 a3) [.int .u32 (Go.bits .or .u32 16 a3)] from rfl) (Reps.one (show Kd.M (Kd.int .u32) _ _ _ ((a0) % 4294967296) [.int .u32 ((a0) % 4294967296)] from rfl) (Reps.none _ _))) (fun _ hk => hk) trivial (Below.refl _ _) (Nat.le_refl _) (by simp) ?_; intro v404 w10 ho11 hb hg_ hnew_; clear hg_ hnew_; (first | rw [← Ny403.out] at ho11 | (simp only [Int.reduceToNat] at ho11; rw [← Ny403.out] at ho11)); have HO405 := Z (Kd.R_lower ho11 (below_size Z75)); replace HB := Z (below_step Z75 hb); clear hb ho11))
   go_ret
   exact ⟨_, Z76, (Z11 HO405), Z75⟩
  have c6b0 : decide ((-67108864) ≤ a0) = false := decide_eq_false c6; clear c6; obtain ⟨y406, hy406⟩ : ∃ y_ : List Int, y_ = (([Go.bits .or .u32 16 a3, (a0) % 4294967296] : List Int)) := ⟨_, rfl⟩; replace H : (some y406) = some r := Yy hy406 H; have Ny406 := Aside0.mk hy406; clear hy406; obtain rfl := Option.some.inj H; go_enter Tryz.func54, Tryz.ntmps54
  go_wp2_with (first | ((with_reducible refine gate_dst (N := 30) rfl ?_); refine Kd.R_lit (Kd.int .u32) _ 44 (by rfl) (N := 30) (by rfl) (xs := ([Go.bits .or .u32 16 a3, (a0) % 4294967296] : List Int)) (inner := [.int .u32 (Go.bits .or .u32 16 a3), .int .u32 ((a0) % 4294967296)]) (ok := fun _ => True) (okp := fun _ => True) Z7 (Reps.one (show Kd.M (Kd.int .u32) _ _ _ (Go.bits .or .u32 16 a3) [.int .u32 (Go.bits .or .u32 16 a3)] from rfl) (Reps.one (show Kd.M (Kd.int .u32) _ _ _ ((a0) % 4294967296) [.int .u32 ((a0) % 4294967296)] from rfl) (Reps.none _ _))) (fun _ hk => hk) trivial (Below.refl _ _) (Nat.le_refl _) (by simp) ?_; intro v407 w12 ho13 hb hg_ hnew_; clear hg_ hnew_; (first | rw [← Ny406.out] at ho13 | (simp only [Int.reduceToNat] at ho13; rw [← Ny406.out] at ho13)); have HO408 := Z (Kd.R_lower ho13 (below_size Z75)); replace HB := Z (below_step Z75 hb); clear hb ho13))
  go_ret
  exact ⟨_, Z76, (Z11 HO408), Z75⟩
 replace c5 := Bool.eq_false_iff.mpr c5; subst c5; replace H := Yf H; replace H := Yi H; rcases H with ⟨c14, H⟩ | ⟨c14, H⟩
 ·have c14b0 : decide ((-67108864) ≤ a0) = true := decide_eq_true c14; clear c14; replace H := Yi H; rcases H with ⟨c15, H⟩ | ⟨c15, H⟩
  ·have c15b0 := decide_eq_true c15; clear c15; obtain ⟨y409, hy409⟩ : ∃ y_ : List Int, y_ = (([Go.bits .or .u32 (Go.bits .or .u32 ((((a0) % 4294967296) * 32) % 4294967296) 0) a2] : List Int)) := ⟨_, rfl⟩; replace H : (some y409) = some r := Yy hy409 H; have Ny409 := Aside0.mk hy409; clear hy409; obtain rfl := Option.some.inj H; go_enter Tryz.func54, Tryz.ntmps54
   go_wp2_with (first | ((with_reducible refine gate_dst (N := 24) rfl ?_); refine Kd.R_lit (Kd.int .u32) _ 44 (by rfl) (N := 24) (by rfl) (xs := ([Go.bits .or .u32 (Go.bits .or .u32 ((((a0) % 4294967296) * 32) % 4294967296) 0) a2] : List Int)) (inner := [.int .u32 (Go.bits .or .u32 (Go.bits .or .u32 ((((a0) % 4294967296) * 32) % 4294967296) 0) a2)]) (ok := fun _ => True) (okp := fun _ => True) Z7 (Reps.one (show Kd.M (Kd.int .u32) _ _ _ (Go.bits .or .u32 (Go.bits .or .u32 ((((a0) % 4294967296) * 32) % 4294967296) 0) a2) [.int .u32 (Go.bits .or .u32 (Go.bits .or .u32 ((((a0) % 4294967296) * 32) % 4294967296) 0) a2)] from rfl) (Reps.none _ _)) (fun _ hk => hk) trivial (Below.refl _ _) (Nat.le_refl _) (by simp) ?_; intro v410 w16 ho17 hb hg_ hnew_; clear hg_ hnew_; (first | rw [← Ny409.out] at ho17 | (simp only [Int.reduceToNat] at ho17; rw [← Ny409.out] at ho17)); have HO411 := Z (Kd.R_lower ho17 (below_size Z75)); replace HB := Z (below_step Z75 hb); clear hb ho17))
   go_ret
   exact ⟨_, Z76, (Z11 HO411), Z75⟩
  have c15b0 := decide_eq_false c15; clear c15; obtain ⟨y412, hy412⟩ : ∃ y_ : List Int, y_ = (([Go.bits .or .u32 0 a3, (a0) % 4294967296] : List Int)) := ⟨_, rfl⟩; replace H : (some y412) = some r := Yy hy412 H; have Ny412 := Aside0.mk hy412; clear hy412; obtain rfl := Option.some.inj H; go_enter Tryz.func54, Tryz.ntmps54
  go_wp2_with (first | ((with_reducible refine gate_dst (N := 30) rfl ?_); refine Kd.R_lit (Kd.int .u32) _ 44 (by rfl) (N := 30) (by rfl) (xs := ([Go.bits .or .u32 0 a3, (a0) % 4294967296] : List Int)) (inner := [.int .u32 (Go.bits .or .u32 0 a3), .int .u32 ((a0) % 4294967296)]) (ok := fun _ => True) (okp := fun _ => True) Z7 (Reps.one (show Kd.M (Kd.int .u32) _ _ _ (Go.bits .or .u32 0 a3) [.int .u32 (Go.bits .or .u32 0 a3)] from rfl) (Reps.one (show Kd.M (Kd.int .u32) _ _ _ ((a0) % 4294967296) [.int .u32 ((a0) % 4294967296)] from rfl) (Reps.none _ _))) (fun _ hk => hk) trivial (Below.refl _ _) (Nat.le_refl _) (by simp) ?_; intro v413 w18 ho19 hb hg_ hnew_; clear hg_ hnew_; (first | rw [← Ny412.out] at ho19 | (simp only [Int.reduceToNat] at ho19; rw [← Ny412.out] at ho19)); have HO414 := Z (Kd.R_lower ho19 (below_size Z75)); replace HB := Z (below_step Z75 hb); clear hb ho19))
  go_ret
  exact ⟨_, Z76, (Z11 HO414), Z75⟩
 have c14b0 : decide ((-67108864) ≤ a0) = false := decide_eq_false c14; clear c14; obtain ⟨y415, hy415⟩ : ∃ y_ : List Int, y_ = (([Go.bits .or .u32 0 a3, (a0) % 4294967296] : List Int)) := ⟨_, rfl⟩; replace H : (some y415) = some r := Yy hy415 H; have Ny415 := Aside0.mk hy415; clear hy415; obtain rfl := Option.some.inj H; go_enter Tryz.func54, Tryz.ntmps54
 go_wp2_with (first | ((with_reducible refine gate_dst (N := 30) rfl ?_); refine Kd.R_lit (Kd.int .u32) _ 44 (by rfl) (N := 30) (by rfl) (xs := ([Go.bits .or .u32 0 a3, (a0) % 4294967296] : List Int)) (inner := [.int .u32 (Go.bits .or .u32 0 a3), .int .u32 ((a0) % 4294967296)]) (ok := fun _ => True) (okp := fun _ => True) Z7 (Reps.one (show Kd.M (Kd.int .u32) _ _ _ (Go.bits .or .u32 0 a3) [.int .u32 (Go.bits .or .u32 0 a3)] from rfl) (Reps.one (show Kd.M (Kd.int .u32) _ _ _ ((a0) % 4294967296) [.int .u32 ((a0) % 4294967296)] from rfl) (Reps.none _ _))) (fun _ hk => hk) trivial (Below.refl _ _) (Nat.le_refl _) (by simp) ?_; intro v416 w20 ho21 hb hg_ hnew_; clear hg_ hnew_; (first | rw [← Ny415.out] at ho21 | (simp only [Int.reduceToNat] at ho21; rw [← Ny415.out] at ho21)); have HO417 := Z (Kd.R_lower ho21 (below_size Z75)); replace HB := Z (below_step Z75 hb); clear hb ho21))
 go_ret
 exact ⟨_, Z76, (Z11 HO417), Z75⟩

attribute [local go_sem high] eqA46
mutual
def impl_CellsOf.j0 : Nat → Int → Bool → Int → ByteArray → Int → Bool → Int → Option (List Int)
 | 0, _, _, _, _, _, _, _ => none
 | k + 1, x3, x11, x419000, x419001, x419002, x419003, x419004 => if x11 = true then ((impl_Pack.f k x419001).bind fun t423 => (impl_CellsOf.l0 k x3 (([] : List Int)) t423 (t423.length : Int) 0)) else (if (x419000 == 7 && (x419001.toList == ([] : List UInt8) && (x419004 == 0))) = true then ((impl_numberCells.f x419002 x419003 8 2).bind fun t430 => (some t430)) else (if (x419000 == 8 && (x419001.toList == ([] : List UInt8) && (x419004 == 0))) = true then ((impl_numberCells.f x419002 x419003 6 5).bind fun t433 => (some t433)) else (if (x419000 == 9 && (!x419003 && (x419004 == 0))) = true then ((impl_Pack.f k x419001).bind fun t436 => (if (t436.length : Int) = 1 then (if 0 < (t436.length : Int) then (some (([Go.bits .or .u32 (((rd t436 0) * 16) % 4294967296) 12, (x419002) % 4294967296] : List Int))) else (none)) else (some ([] : List Int)))) else (if (x419000 == 0 && (x419001.toList == ([] : List UInt8) && (x419002 == 0 && (!x419003)))) = true then (some (([x419004] : List Int))) else (some ([] : List Int))))))
def impl_CellsOf.l0 : Nat → Int → List Int → List Int → Int → Int → Option (List Int)
 | 0, _, _, _, _, _ => none
 | k + 1, x3, x4, x26, x27, x28 => if x28 < x27 then (if 0 ≤ x28 then (if x28 < (x26.length : Int) then (if x4.length < 35184372088832 then (impl_CellsOf.l0 k 0 (x4 ++ [Go.bits .or .u32 (((rd x26 x28) * 16) % 4294967296) x3]) x26 x27 (wrap64 (x28 + 1))) else (none)) else (none)) else (none)) else (some x4)
end
def impl_CellsOf.f (k : Nat) (a0_0 : Int) (a0_1 : ByteArray) (a0_2 : Int) (a0_3 : Bool) (a0_4 : Int) : Option (List Int) := (impl_nameTag.f a0_0).bind fun t419 => (if t419 > 0 then (impl_CellsOf.j0 k t419 (a0_2 == 0 && (!a0_3 && (a0_4 == 0))) a0_0 a0_1 a0_2 a0_3 a0_4) else (impl_CellsOf.j0 k t419 false a0_0 a0_1 a0_2 a0_3 a0_4))
def impl_CellsOf.T18 : Bool × List (List Nat × List Nat) := (true, [([], []), ([0], [0]), ([1], [1]), ([2], [2]), ([3], [3]), ([], []), ([5], [5]), ([6], [6]), ([4, 7], [4, 7]), ([8, 0, 1, 2, 3, 4, 5, 6, 7, 8], [8])])
def impl_CellsOf.B18 : List Nat := [0, 1, 3, 7, 15, 0, 32, 96, 255, 511]
theorem impl_CellsOf.tab18 : rtab .any (opsOf Tryz.f27 18) = impl_CellsOf.T18 := Z0
theorem impl_CellsOf.bits18 : waitsOk impl_CellsOf.T18.2 impl_CellsOf.B18 = true := Z0
theorem impl_CellsOf.calls (k : Nat) (a0_0 : Int) (a0_1 : ByteArray) (a0_2 : Int) (a0_3 : Bool) (a0_4 : Int) (r : List Int) (w : World) (h : impl_CellsOf.f k a0_0 a0_1 a0_2 a0_3 a0_4 = some r) :
  Calls Tryz.prog 27 #[.agg #[.int .i64 a0_0, .string a0_1, .int .i32 a0_2, .bool a0_3, .int .u32 a0_4]] w fun e w' => ∃ v0_ : Value, e = .returned (v0_) ∧ Kd.R (Kd.int .u32) 44 w' w.heap.size (fun _ => True) v0_ r ∧ Below w.heap.size w w' := by
 have hu46 := Tryz.underlying46; have HB := Z (Below.refl w.heap.size w); unfold impl_CellsOf.f at h; have H := h; clear h; replace H := Yd H; obtain ⟨t419, A2, H⟩ := H; (try dsimp only at H); have HC3 := Aside0.mk H; clear H; go_enter Tryz.func27, Tryz.ntmps27
 go_upto_region 2 with (first | ((with_reducible refine gate_dst (N := 1) rfl ?_); refine box_event (by rfl) (N := 1) (by rfl) (cs := #[.int .i64 a0_0, .string a0_1, .int .i32 a0_2, .bool a0_3, .int .u32 a0_4]) (t := 46) Z7 ?_; intro gb418 hg w4 hbox hb; have BK418 := Z (hbox); have GW418 := Z ((Z99 : w.heap.size ≤ gb418)); have GE418 := Z ((Z99 : w.heap.size ≤ gb418)); replace HB := Z (below_step Z75 hb); clear hb hbox hg; have hcz5 := Yb5 BK418.out) | ((with_reducible refine gate_callee (f := 52) rfl ?_); refine goesL_ (some 10) rfl rfl Tryz.func52 Z0 rfl #[.int .i64 a0_0] rfl Z10 ?_; (with_reducible refine (impl_nameTag.calls a0_0 t419 _ A2.out).mono ?_); rintro e w' ⟨rfl, ⟨nd, rfl⟩⟩; refine ⟨_, rfl, ?_⟩))
 (try simp only [Act.put, List.setIfInBounds_toArray, List.set_cons_zero, List.set_cons_succ])
 go_cut [11] (fun v11 wc => ∃ (kq : Nat) (x11_2 : Bool), v11 = .bool x11_2 ∧ Aside0 (impl_CellsOf.j0 kq t419 x11_2 a0_0 a0_1 a0_2 a0_3 a0_4 = some r) ∧ Aside0 (kq ≤ k) ∧ Aside0 (wc.heap[gb418]? = some (.cells #[.int .i64 a0_0, .string a0_1, .int .i32 a0_2, .bool a0_3, .int .u32 a0_4] 46 (0, 0))) ∧ Aside0 (Below w.heap.size w wc))
 case first =>
  have H := HC3.out; clear HC3; replace H := Yi H; rcases H with ⟨c6, H⟩ | ⟨c6, H⟩
  ·have c6b0 : decide (0 < t419) = true := decide_eq_true c6; clear c6
   (first | rw [c6b0] | (simp only [i64_w, i32_w]; rw [c6b0]) | skip)
   have H' := Aside0.mk H; clear H; have hcz7 := Yb5 BK418.out
   go_wp2
   go_meet
   case rel => exact ⟨_, ((a0_2 == 0 && (!a0_3 && (a0_4 == 0)))), Z2, H', ⟨Z14⟩, ⟨(Z8 BK418)⟩, ⟨Z75⟩⟩
  have c6b0 : decide (0 < t419) = false := decide_eq_false c6; clear c6
  (first | rw [c6b0] | (simp only [i64_w, i32_w]; rw [c6b0]) | skip)
  have H' := Aside0.mk H; clear H
  go_wp2
  go_meet
  case rel => exact ⟨_, (false), Z2, H', ⟨Z14⟩, ⟨(Z8 BK418)⟩, ⟨Z75⟩⟩
 case rest =>
  clear HC3; (try clear c2); (try clear p2); (try clear c5); (try clear c6); (try clear c6b0); (try clear hcz5); (try clear hcz7); obtain ⟨kq, x11_2, rfl, HA, HJ2, BK418, HB⟩ := hcut
  cases kq with
  | zero => exact absurd HA.out (by simp [impl_CellsOf.j0])
  | succ kj2 =>
   have H := HA.out; clear HA; simp only [impl_CellsOf.j0] at H; by_cases c8 : x11_2 = true
   ·subst c8; replace H := Yt H; obtain ⟨y420, hy420⟩ : ∃ y_ : List Int, y_ = (([] : List Int)) := ⟨_, rfl⟩; replace H : ((impl_Pack.f kj2 a0_1).bind fun t423 => (impl_CellsOf.l0 kj2 t419 y420 t423 (t423.length : Int) 0)) = some r := Yy hy420 H; have Ny420 := Aside0.mk hy420; clear hy420; replace H := Yd H; obtain ⟨t423, A9, H⟩ := H; (try dsimp only at H); have H' := Aside0.mk H; clear H
    go_wp2_with (first | ((with_reducible refine gate_dst (N := 23) rfl ?_); refine Kd.R_lit (Kd.int .u32) _ 44 (by rfl) (N := 23) (by rfl) (xs := ([] : List Int)) (inner := []) (ok := fun _ => True) (okp := fun _ => True) Z7 (Reps.none _ _) (fun _ hk => hk) trivial (Below.refl _ _) (Nat.le_refl _) (by simp) ?_; intro v421 w10 ho11 hb hg_ hnew_; clear hg_ hnew_; (first | rw [← Ny420.out] at ho11 | (simp only [Int.reduceToNat] at ho11; rw [← Ny420.out] at ho11)); have HO422 := Z (Kd.R_lower ho11 (below_size Z75)); replace BK418 := Z (Yk BK418 hb); replace HB := Z (below_step Z75 hb); clear hb ho11; have hcz12 := Yb5 BK418.out) | ((with_reducible refine gate_callee (f := 53) rfl ?_); refine goesL_ (some 26) rfl rfl Tryz.func53 Z0 rfl #[.string a0_1] rfl Z10 ?_; (with_reducible refine (impl_Pack.calls kj2 a0_1 t423 _ A9.out).mono ?_); rintro e w13 ⟨v424, rfl, ho0, hb⟩; refine ⟨_, rfl, ?_⟩; have HO425 := Z (Kd.R_lower (Kd.R_new' ho0 (Kd.R_lt (Z11 HO422))) (below_size Z75)); replace HO422 := Z (Kd.R_elder' (Z11 HO422) (Kd.R_base ho0) hb); replace BK418 := Z (Yk BK418 hb); replace HB := Z (below_step Z75 hb); (try clear hb); (try clear hb2); (try clear hk); (try clear hi); (try clear ho0); obtain ⟨Ao14, co14, eo14⟩ := Kd.R_slice HO425.out; subst eo14))
    go_loopg [3, 4, 28] kj2 (fun kq v3 v4 v28 w' => ∃ (x3_2 : Int) (x4_2 : List Int) (x28_2 : Int), v3 = .int .u32 x3_2 ∧ v28 = .int .i64 x28_2 ∧ Aside0 (impl_CellsOf.l0 kq x3_2 x4_2 t423 (t423.length : Int) x28_2 = some r) ∧ Aside0 (kq ≤ kj2) ∧ Aside0 (Kd.R (Kd.int .u32) 44 w' w.heap.size (fun k_ => some k_ ≠ ((.slice Ao14 t423.length co14) : Value).ownBlock) v4 x4_2) ∧ Aside0 (Kd.R (Kd.int .u32) 44 w' w.heap.size (fun k_ => some k_ ≠ (v4 : Value).ownBlock) (.slice Ao14 t423.length co14) t423) ∧ Aside0 (w'.heap[gb418]? = some (.cells #[.int .i64 a0_0, .string a0_1, .int .i32 a0_2, .bool a0_3, .int .u32 a0_4] 46 (0, 0))) ∧ Aside0 (Below w.heap.size w w'))
    case atStart => exact ⟨(t419), (y420), (0), Z2, Z2, H', ⟨Nat.le_refl _⟩, ⟨(Z17 HO422)⟩, ⟨(Z17 HO425)⟩, ⟨(Z8 BK418)⟩, ⟨Z75⟩⟩
    case round =>
     clear H'; (try clear c2); (try clear p2); (try clear c5); (try clear c6); (try clear c6b0); (try clear c8); (try clear hcz12); (try clear hcz5); (try clear hcz7); (try clear p2); obtain ⟨x3_2, x4_2, x28_2, rfl, rfl, HA, HK2, HO_4, HO_26, BK418, HB⟩ := hrel
     cases gk with
     | zero => exact absurd HA.out (by simp [impl_CellsOf.l0])
     | succ k2 =>
      have H := HA.out; clear HA; simp only [impl_CellsOf.l0] at H; replace H := Yi H; rcases H with ⟨c15, H⟩ | ⟨c15, H⟩
      ·have c15b0 := decide_eq_true c15; clear c15; replace H := Yg H; obtain ⟨c16, H⟩ := H; have c16b0 := decide_eq_true c16; clear c16; replace H := Yg H; obtain ⟨c17, H⟩ := H; have c17b0 := decide_eq_true c17; clear c17; replace H := Yg H; obtain ⟨c18, H⟩ := H; have LMc18 := Aside0.mk c18; clear c18; obtain ⟨y427, hy427⟩ : ∃ y_ : List Int, y_ = (x4_2 ++ [Go.bits .or .u32 (((rd t423 x28_2) * 16) % 4294967296) x3_2]) := ⟨_, rfl⟩; replace H : (impl_CellsOf.l0 k2 0 y427 t423 (t423.length : Int) (wrap64 (x28_2 + 1))) = some r := Yy hy427 H; have Ny427 := Aside0.mk hy427; clear hy427; have H' := Aside0.mk H; clear H; have p426 : 0 ≤ (x28_2 : Int) := of_decide_eq_true Z5; have q426 : x28_2 < (t423.length : Int) := of_decide_eq_true Z5; obtain ⟨ad426, e426, hx426_0⟩ := Kd.at_int (Kd.R_reads' HO_26.out).2.2 x28_2 p426 q426
       cases e426
       replace p426 := eq_true p426; replace q426 := eq_true q426
       go_wp2_with (first | ((with_reducible refine gate_builtin (b := .append) (xs := #[.tmp 32, .tmp 37]) rfl ?_); at_builtin; refine Kd.R_append (Kd.int .u32) (w0 := w) w.heap.size rfl (.tmp 32) (.tmp 37) 24 44 (.int .u32 0) 4 rfl Tryz.underlying24 info44 rfl (by decide) (by omega) u4 x4_2 (Go.bits .or .u32 (((rd t423 x28_2) * 16) % 4294967296) x3_2) [.int .u32 (Go.bits .or .u32 (((rd t423 x28_2) * 16) % 4294967296) x3_2)] (fun k_ => some k_ ≠ (.slice (some ad426) t423.length co14 : Value).ownBlock) (fun _ => False) rfl rfl ?aP (fun _ hk => hk.elim) ?aF ?aO ?aB ?aS ?aL ?_; (case aP => exact rfl); (case aB => exact Z75); (case aF => exact (fun k_ hk => Kd.fresh' (Kd.R_lt (Z11 HO_26)) k_ hk)); (case aO => exact (Z11 HO_4)); (case aS => exact (below_size Z75)); (case aL => have := LMc18.out; omega); intro v428 w19 ho hb hg hat; rw [← Ny427.out] at ho; replace HO_26 := Z (Kd.R_after (ok := (fun _ => True)) (by (with_reducible repeat (first | apply Kd.R_alloc | apply Kd.R_drewN | apply Kd.R_drew)); exact Kd.R_mono HO_26.out (fun _ hk => ⟨trivial, hk⟩)) hg hat); replace BK418 := Z (blk_grown (g := gb418) (o := .cells #[.int .i64 a0_0, .string a0_1, .int .i32 a0_2, .bool a0_3, .int .u32 a0_4] 46 (0, 0)) (Z8 BK418) hg (Kd.R_ne HO_4.out BK418.out (by decide))); replace HB := Z (hb); have HO429 := Z (ho); clear HO_4; clear ho hb hg hat))
       go_roundg k2
       case measure => have := HJ2.out; have := HK2.out; omega
       case rel => exact ⟨(0), (y427), (wrap64 (x28_2 + 1)), Z2, Z2, H', ⟨by have := HJ2.out; have := HK2.out; omega⟩, ⟨(Z11 HO429)⟩, ⟨(Z17 HO_26)⟩, ⟨(Z8 BK418)⟩, ⟨Z75⟩⟩
      have c15b0 := decide_eq_false c15; clear c15; obtain rfl := Option.some.inj H
      go_wp2
      go_ret
      exact ⟨_, Z76, (Z15 HO_4), Z75⟩
   replace c8 := Bool.eq_false_iff.mpr c8; subst c8; replace H := Yf H; replace H := Yi H; rcases H with ⟨c20, H⟩ | ⟨c20, H⟩
   ·have c20b0 : (a0_0 == 7 && (a0_1.toList == ([] : List UInt8) && (a0_4 == 0))) = true := c20
    (try (have c20b1 : (a0_0 == 7 && (a0_1.toList.isEmpty && (a0_4 == 0))) = true := by have h_ : (a0_0 == 7 && (a0_1.toList == ([] : List UInt8) && (a0_4 == 0))) = true := c20; simpa only [List.beq_nil_eq] using h_))
    (try (have c20b2 : decide (a0_0 = 7 && (a0_1.toList == ([] : List UInt8) && (a0_4 == 0))) = true := Z21))
    (try (have c20b3 : (a0_0 == 7 && (a0_1.toList == ([] : List UInt8) && (a0_4 == 0))) = true := Z21))
    clear c20; replace H := Yd H; obtain ⟨t430, A21, H⟩ := H; (try dsimp only at H); obtain rfl := Option.some.inj H; have hcz22 := Yb5 BK418.out
    go_wp2_with (first | ((with_reducible refine gate_callee (f := 54) rfl ?_); refine goesL_ (some 53) rfl rfl Tryz.func54 Z0 rfl #[.int .i32 a0_2, .bool a0_3, .int .u32 8, .int .u32 2] rfl Z10 ?_; (with_reducible refine (impl_numberCells.calls a0_2 a0_3 8 2 t430 _ A21.out).mono ?_); rintro e w23 ⟨v431, rfl, ho0, hb⟩; refine ⟨_, rfl, ?_⟩; have HO432 := Z (Kd.R_lower ho0 (below_size Z75)); replace BK418 := Z (Yk BK418 hb); replace HB := Z (below_step Z75 hb); (try clear hb); (try clear hb2); (try clear hk); (try clear hi); (try clear ho0)))
    go_ret
    exact ⟨_, Z76, (Z11 HO432), Z75⟩
   have c20b0 : (a0_0 == 7 && (a0_1.toList == ([] : List UInt8) && (a0_4 == 0))) = false := Z21
   (try (have c20b1 : (a0_0 == 7 && (a0_1.toList.isEmpty && (a0_4 == 0))) = false := by have h_ : (a0_0 == 7 && (a0_1.toList == ([] : List UInt8) && (a0_4 == 0))) = false := Z21; simpa only [List.beq_nil_eq] using h_))
   (try (have c20b2 : decide (a0_0 = 7 && (a0_1.toList == ([] : List UInt8) && (a0_4 == 0))) = false := Z21))
   (try (have c20b3 : (a0_0 == 7 && (a0_1.toList == ([] : List UInt8) && (a0_4 == 0))) = false := Z21))
   (try (have c20b4 : ¬ (a0_0 = 7 && (a0_1.toList == ([] : List UInt8) && (a0_4 == 0))) := Z21))
   clear c20; replace H := Yi H; rcases H with ⟨c24, H⟩ | ⟨c24, H⟩
   ·have c24b0 : (a0_0 == 8 && (a0_1.toList == ([] : List UInt8) && (a0_4 == 0))) = true := c24
    (try (have c24b1 : (a0_0 == 8 && (a0_1.toList.isEmpty && (a0_4 == 0))) = true := by have h_ : (a0_0 == 8 && (a0_1.toList == ([] : List UInt8) && (a0_4 == 0))) = true := c24; simpa only [List.beq_nil_eq] using h_))
    (try (have c24b2 : decide (a0_0 = 8 && (a0_1.toList == ([] : List UInt8) && (a0_4 == 0))) = true := Z22))
    (try (have c24b3 : (a0_0 == 8 && (a0_1.toList == ([] : List UInt8) && (a0_4 == 0))) = true := Z22))
    clear c24; replace H := Yd H; obtain ⟨t433, A25, H⟩ := H; (try dsimp only at H); obtain rfl := Option.some.inj H; have hcz26 := Yb5 BK418.out
    go_wp2_with (first | ((with_reducible refine gate_callee (f := 54) rfl ?_); refine goesL_ (some 66) rfl rfl Tryz.func54 Z0 rfl #[.int .i32 a0_2, .bool a0_3, .int .u32 6, .int .u32 5] rfl Z10 ?_; (with_reducible refine (impl_numberCells.calls a0_2 a0_3 6 5 t433 _ A25.out).mono ?_); rintro e w27 ⟨v434, rfl, ho0, hb⟩; refine ⟨_, rfl, ?_⟩; have HO435 := Z (Kd.R_lower ho0 (below_size Z75)); replace BK418 := Z (Yk BK418 hb); replace HB := Z (below_step Z75 hb); (try clear hb); (try clear hb2); (try clear hk); (try clear hi); (try clear ho0)))
    go_ret
    exact ⟨_, Z76, (Z11 HO435), Z75⟩
   have c24b0 : (a0_0 == 8 && (a0_1.toList == ([] : List UInt8) && (a0_4 == 0))) = false := Z22
   (try (have c24b1 : (a0_0 == 8 && (a0_1.toList.isEmpty && (a0_4 == 0))) = false := by have h_ : (a0_0 == 8 && (a0_1.toList == ([] : List UInt8) && (a0_4 == 0))) = false := Z22; simpa only [List.beq_nil_eq] using h_))
   (try (have c24b2 : decide (a0_0 = 8 && (a0_1.toList == ([] : List UInt8) && (a0_4 == 0))) = false := Z22))
   (try (have c24b3 : (a0_0 == 8 && (a0_1.toList == ([] : List UInt8) && (a0_4 == 0))) = false := Z22))
   (try (have c24b4 : ¬ (a0_0 = 8 && (a0_1.toList == ([] : List UInt8) && (a0_4 == 0))) := Z22))
   clear c24; replace H := Yi H; rcases H with ⟨c28, H⟩ | ⟨c28, H⟩
   ·have c28b0 : (a0_0 == 9 && (!a0_3 && (a0_4 == 0))) = true := c28
    (try (have c28b1 : decide (a0_0 = 9 && (!a0_3 && (a0_4 == 0))) = true := by simpa using c28))
    (try (have c28b2 : (a0_0 == 9 && (!a0_3 && (a0_4 == 0))) = true := by simpa using c28))
    clear c28; replace H := Yd H; obtain ⟨t436, A29, H⟩ := H; (try dsimp only at H); replace H := Yi H; rcases H with ⟨c30, H⟩ | ⟨c30, H⟩
    ·obtain ⟨c30b0, c30b1⟩ := Ye c30; clear c30; replace H := Yg H; obtain ⟨c31, H⟩ := H; have c31b0 := decide_eq_true c31; have c31b1 : decide (0 < t436.length) = true := decide_eq_true (by omega); clear c31; obtain ⟨y440, hy440⟩ : ∃ y_ : List Int, y_ = (([Go.bits .or .u32 (((rd t436 0) * 16) % 4294967296) 12, (a0_2) % 4294967296] : List Int)) := ⟨_, rfl⟩; replace H : (some y440) = some r := Yy hy440 H; have Ny440 := Aside0.mk hy440; clear hy440; obtain rfl := Option.some.inj H; have hcz32 := Yb5 BK418.out
     try go_wp2_with (first | ((with_reducible refine gate_callee (f := 53) rfl ?_); refine goesL_ (some 77) rfl rfl Tryz.func53 Z0 rfl #[.string a0_1] rfl Z10 ?_; (with_reducible refine (impl_Pack.calls kj2 a0_1 t436 _ A29.out).mono ?_); rintro e w33 ⟨v437, rfl, ho0, hb⟩; refine ⟨_, rfl, ?_⟩; have HO438 := Z (Kd.R_lower ho0 (below_size Z75)); replace BK418 := Z (Yk BK418 hb); replace HB := Z (below_step Z75 hb); (try clear hb); (try clear hb2); (try clear hk); (try clear hi); (try clear ho0); obtain ⟨Ao34, co34, eo34⟩ := Kd.R_slice HO438.out; subst eo34))
     have n0_ := Z (Kd.R_drew HO438.out); have n1_ := Z (blk_drew BK418.out); have n2_ := Z (below_drew1 HB.out); clear HO438; clear BK418; clear HB; have HO438 := n0_; have BK418 := n1_; have HB := n2_; clear n0_ n1_ n2_; have p439 : 0 ≤ (0 : Int) := (by omega); have q439 : 0 < (t436.length : Int) := of_decide_eq_true Z5; obtain ⟨ad439, e439, hx439_0⟩ := Kd.at_int (Kd.R_reads' HO438.out).2.2 0 p439 q439
     cases e439
     have qi439 : (0 < t436.length) = True := eq_true (by omega)
     (try rw [show ((0 : Int)).toNat = 0 from rfl] at hx439_0)
     (try rw [Addr.add_zero'] at hx439_0)
     replace p439 := eq_true p439; replace q439 := eq_true q439; refine start_ (n := 10) (S := fun w' => w'.cell? ⟨gb418, 0, none⟩ = some (.int .i64 a0_0) ∧ w'.cell? ⟨gb418, 1, none⟩ = some (.string a0_1) ∧ w'.cell? ⟨gb418, 2, none⟩ = some (.int .i32 a0_2) ∧ w'.cell? ⟨gb418, 3, none⟩ = some (.bool a0_3) ∧ w'.cell? ⟨gb418, 4, none⟩ = some (.int .u32 a0_4) ∧ w'.cell? ad439 = some (.int .u32 (rd t436 0))) (ds := []) #[false, false, false, false, false, false, false, false, false, false] Z0 rfl rfl ⟨(blk_cell BK418.out 0).trans rfl, (blk_cell BK418.out 1).trans rfl, (blk_cell BK418.out 2).trans rfl, (blk_cell BK418.out 3).trans rfl, (blk_cell BK418.out 4).trans rfl, hx439_0⟩ (fun hHeld => ?_); refine with_tabW impl_CellsOf.tab18 impl_CellsOf.bits18 (fun HT_ HW_ => ?_)
     generalize w33.drew = w35 at HO438 BK418 HB hx439_0 hHeld ⊢; refine pure_ (i := 0) (N := some 81) (v := ?_) (a' := ?_) #[true, false, false, false, false, false, false, false, false, false] rfl rfl (any_of HT_.out Z0) (fun _ _ _ h => h) (Or.inl ⟨by rfl, ?_⟩) ?_ ?_
     rotate_left
     ·intro w'
      go_simp
      with_reducible rfl
     rotate_left
     ·simp only [Act.put, List.setIfInBounds_toArray, List.set_cons_zero, List.set_cons_succ, i64_w, i32_w]
      rfl
     refine pure_ (i := 1) (N := some 82) (v := ?_) (a' := ?_) #[true, true, false, false, false, false, false, false, false, false] rfl rfl (any_of HT_.out Z0) (fun _ _ _ h => h) (Or.inl ⟨by rfl, ?_⟩) ?_ ?_
     rotate_left
     ·intro w'
      go_simp
      with_reducible rfl
     rotate_left
     ·simp only [Act.put, List.setIfInBounds_toArray, List.set_cons_zero, List.set_cons_succ, i64_w, i32_w]
      rfl
     refine pure_ (i := 5) (N := some 86) (v := ?_) (a' := ?_) #[true, true, false, false, false, true, false, false, false, false] rfl rfl (any_of HT_.out Z0) (fun _ _ _ h => h) (Or.inl ⟨by rfl, ?_⟩) ?_ ?_
     rotate_left
     ·intro w'
      go_simp
      with_reducible rfl
     rotate_left
     ·simp only [Act.put, List.setIfInBounds_toArray, List.set_cons_zero, List.set_cons_succ, i64_w, i32_w]
      rfl
     refine take_ (i := 2) (N := some 83) (v := ?_) (a' := ?_) #[true, true, true, false, false, true, false, false, false, false] rfl rfl (take_ofW HT_.out HW_.out Z0) (fun _ _ _ h => h) (Or.inl ⟨by rfl, ?_⟩) hHeld ?_ ?_
     rotate_left
     ·rintro w' ⟨s0, s1, s2, s3, s4, s5⟩
      go_simp
      with_reducible rfl
     rotate_left
     ·simp only [Act.put, List.setIfInBounds_toArray, List.set_cons_zero, List.set_cons_succ, i64_w, i32_w]
      rfl
     refine pure_ (i := 3) (N := some 84) (v := ?_) (a' := ?_) #[true, true, true, true, false, true, false, false, false, false] rfl rfl (any_of HT_.out Z0) (fun _ _ _ h => h) (Or.inl ⟨by rfl, ?_⟩) ?_ ?_
     rotate_left
     ·intro w'
      go_simp
      with_reducible rfl
     rotate_left
     ·simp only [Act.put, List.setIfInBounds_toArray, List.set_cons_zero, List.set_cons_succ, i64_w, i32_w]
      rfl
     refine pure_ (i := 4) (N := some 85) (v := ?_) (a' := ?_) #[true, true, true, true, true, true, false, false, false, false] rfl rfl (any_of HT_.out Z0) (fun _ _ _ h => h) (Or.inl ⟨by rfl, ?_⟩) ?_ ?_
     rotate_left
     ·intro w'
      go_simp
      with_reducible rfl
     rotate_left
     ·simp only [Act.put, List.setIfInBounds_toArray, List.set_cons_zero, List.set_cons_succ, i64_w, i32_w]
      rfl
     refine take_ (i := 6) (N := some 87) (v := ?_) (a' := ?_) #[true, true, true, true, true, true, true, false, false, false] rfl rfl (take_ofW HT_.out HW_.out Z0) (fun _ _ _ h => h) (Or.inl ⟨by rfl, ?_⟩) hHeld ?_ ?_
     rotate_left
     ·rintro w' ⟨s0, s1, s2, s3, s4, s5⟩
      go_simp
      with_reducible rfl
     rotate_left
     ·simp only [Act.put, List.setIfInBounds_toArray, List.set_cons_zero, List.set_cons_succ, i64_w, i32_w]
      rfl
     refine pure_ (i := 7) (N := some 88) (v := ?_) (a' := ?_) #[true, true, true, true, true, true, true, true, false, false] rfl rfl (any_of HT_.out Z0) (fun _ _ _ h => h) (Or.inl ⟨by rfl, ?_⟩) ?_ ?_
     rotate_left
     ·intro w'
      go_simp
      with_reducible rfl
     rotate_left
     ·simp only [Act.put, List.setIfInBounds_toArray, List.set_cons_zero, List.set_cons_succ, i64_w, i32_w]
      rfl
     refine one_ (i := 8) (N := some 89) #[true, true, true, true, true, true, true, true, true, false] rfl rfl (one_of HT_.out Z0) (by decide) (fun K hK => ?_)
     refine Kd.R_lit_step (Kd.int .u32) _ 44 ?hg (N := 89) ?hd (xs := ([Go.bits .or .u32 (((rd t436 0) * 16) % 4294967296) 12, (a0_2) % 4294967296] : List Int)) (inner := [.int .u32 (Go.bits .or .u32 (((rd t436 0) * 16) % 4294967296) 12), .int .u32 ((a0_2) % 4294967296)]) (ok := fun _ => True) (okp := fun _ => True) ?hr ?hp (fun _ hk => hk) trivial (Below.refl _ _) (Nat.le_refl _) (by simp) ?_; (case hd => rfl); (case hg => rfl); (case hr => exact Z7); (case hp => exact (Reps.one (show Kd.M (Kd.int .u32) _ _ _ (Go.bits .or .u32 (((rd t436 0) * 16) % 4294967296) 12) [.int .u32 (Go.bits .or .u32 (((rd t436 0) * 16) % 4294967296) 12)] from rfl) (Reps.one (show Kd.M (Kd.int .u32) _ _ _ ((a0_2) % 4294967296) [.int .u32 ((a0_2) % 4294967296)] from rfl) (Reps.none _ _))))
     intro v441 w36 ho37 hb hg_ hnew_; have HS5_ := (hb.cell (World.block_lt_of_cell? _ _ (hHeld.2.2.2.2.2))).trans (hHeld.2.2.2.2.2); clear hg_ hnew_
     (first | rw [← Ny440.out] at ho37 | (simp only [Int.reduceToNat] at ho37; rw [← Ny440.out] at ho37))
     have n0_ := Z (Kd.R_elder' (Z11 HO438) (Kd.R_base ho37) hb); have n1_ := Z (Kd.R_lower (Kd.R_new' ho37 (Kd.R_lt (Z11 HO438))) (below_size Z75)); have n2_ := Z (Yk BK418 hb); have n3_ := Z (below_step Z75 hb); clear HO438; clear BK418; clear HB; have HO438 := n0_; have HO442 := n1_; have BK418 := n2_; have HB := n3_; clear n0_ n1_ n2_ n3_; clear hb ho37; refine hK.out _ _ ⟨(blk_cell BK418.out 0).trans rfl, (blk_cell BK418.out 1).trans rfl, (blk_cell BK418.out 2).trans rfl, (blk_cell BK418.out 3).trans rfl, (blk_cell BK418.out 4).trans rfl, HS5_⟩ (fun hHeld => ?_)
     clear hK K; refine norm_ (a' := ?_) ?_ ?_
     rotate_left
     ·show Act.put _ (some 89) _ = _
      simp only [Act.put, List.setIfInBounds_toArray, List.set_cons_zero, List.set_cons_succ, i64_w, i32_w]
      rfl
     refine pure_ (i := 9) (N := some 2) (v := ?_) (a' := ?_) #[true, true, true, true, true, true, true, true, true, true] rfl rfl (any_of HT_.out Z0) (fun _ _ _ h => h) (Or.inl ⟨by rfl, ?_⟩) ?_ ?_
     rotate_left
     ·intro w'
      go_simp
      with_reducible rfl
     rotate_left
     ·simp only [Act.put, List.setIfInBounds_toArray, List.set_cons_zero, List.set_cons_succ, i64_w, i32_w]
      rfl
     refine done_ (done_of HT_.out Z0) ?_
     try go_wp2
     go_ret
     exact ⟨_, Z76, (Z15 HO442), Z75⟩
    obtain ⟨c30b0, c30b1⟩ := Yn c30; obtain rfl := Option.some.inj H; have hcz38 := Yb5 BK418.out
    go_wp2_with (first | ((with_reducible refine gate_callee (f := 53) rfl ?_); refine goesL_ (some 77) rfl rfl Tryz.func53 Z0 rfl #[.string a0_1] rfl Z10 ?_; (with_reducible refine (impl_Pack.calls kj2 a0_1 t436 _ A29.out).mono ?_); rintro e w39 ⟨v437, rfl, ho0, hb⟩; refine ⟨_, rfl, ?_⟩; have HO438 := Z (Kd.R_lower ho0 (below_size Z75)); replace BK418 := Z (Yk BK418 hb); replace HB := Z (below_step Z75 hb); (try clear hb); (try clear hb2); (try clear hk); (try clear hi); (try clear ho0); obtain ⟨Ao40, co40, eo40⟩ := Kd.R_slice HO438.out; subst eo40))
    go_ret
    exact ⟨_, Z76, Z23, Z75⟩
   have c28b0 : (a0_0 == 9 && (!a0_3 && (a0_4 == 0))) = false := by simpa using c28
   (try (have c28b1 : decide (a0_0 = 9 && (!a0_3 && (a0_4 == 0))) = false := by simpa using c28))
   (try (have c28b2 : (a0_0 == 9 && (!a0_3 && (a0_4 == 0))) = false := by simpa using c28))
   (try (have c28b3 : ¬ (a0_0 = 9 && (!a0_3 && (a0_4 == 0))) := by simpa using c28))
   clear c28; replace H := Yi H; rcases H with ⟨c41, H⟩ | ⟨c41, H⟩
   ·have c41b0 : (a0_0 == 0 && (a0_1.toList == ([] : List UInt8) && (a0_2 == 0 && (!a0_3)))) = true := c41
    (try (have c41b1 : (a0_0 == 0 && (a0_1.toList.isEmpty && (a0_2 == 0 && (!a0_3)))) = true := by have h_ : (a0_0 == 0 && (a0_1.toList == ([] : List UInt8) && (a0_2 == 0 && (!a0_3)))) = true := c41; simpa only [List.beq_nil_eq] using h_))
    (try (have c41b2 : decide (a0_0 = 0 && (a0_1.toList == ([] : List UInt8) && (a0_2 == 0 && (!a0_3)))) = true := Z24))
    (try (have c41b3 : (a0_0 == 0 && (a0_1.toList == ([] : List UInt8) && (a0_2 == 0 && (!a0_3)))) = true := Z24))
    clear c41; obtain ⟨y443, hy443⟩ : ∃ y_ : List Int, y_ = (([a0_4] : List Int)) := ⟨_, rfl⟩; replace H : (some y443) = some r := Yy hy443 H; have Ny443 := Aside0.mk hy443; clear hy443; obtain rfl := Option.some.inj H; have hcz42 := Yb5 BK418.out
    go_wp2_with (first | ((with_reducible refine gate_dst (N := 98) rfl ?_); refine Kd.R_lit (Kd.int .u32) _ 44 (by rfl) (N := 98) (by rfl) (xs := ([a0_4] : List Int)) (inner := [.int .u32 a0_4]) (ok := fun _ => True) (okp := fun _ => True) Z7 (Reps.one (show Kd.M (Kd.int .u32) _ _ _ a0_4 [.int .u32 a0_4] from rfl) (Reps.none _ _)) (fun _ hk => hk) trivial (Below.refl _ _) (Nat.le_refl _) (by simp) ?_; intro v444 w43 ho44 hb hg_ hnew_; clear hg_ hnew_; (first | rw [← Ny443.out] at ho44 | (simp only [Int.reduceToNat] at ho44; rw [← Ny443.out] at ho44)); have HO445 := Z (Kd.R_lower ho44 (below_size Z75)); replace BK418 := Z (Yk BK418 hb); replace HB := Z (below_step Z75 hb); clear hb ho44))
    go_ret
    exact ⟨_, Z76, (Z11 HO445), Z75⟩
   have c41b0 : (a0_0 == 0 && (a0_1.toList == ([] : List UInt8) && (a0_2 == 0 && (!a0_3)))) = false := Z24
   (try (have c41b1 : (a0_0 == 0 && (a0_1.toList.isEmpty && (a0_2 == 0 && (!a0_3)))) = false := by have h_ : (a0_0 == 0 && (a0_1.toList == ([] : List UInt8) && (a0_2 == 0 && (!a0_3)))) = false := Z24; simpa only [List.beq_nil_eq] using h_))
   (try (have c41b2 : decide (a0_0 = 0 && (a0_1.toList == ([] : List UInt8) && (a0_2 == 0 && (!a0_3)))) = false := Z24))
   (try (have c41b3 : (a0_0 == 0 && (a0_1.toList == ([] : List UInt8) && (a0_2 == 0 && (!a0_3)))) = false := Z24))
   (try (have c41b4 : ¬ (a0_0 = 0 && (a0_1.toList == ([] : List UInt8) && (a0_2 == 0 && (!a0_3)))) := Z24))
   clear c41; obtain rfl := Option.some.inj H; have hcz45 := Yb5 BK418.out
   go_wp2
   go_ret
   exact ⟨_, Z76, Z23, Z75⟩

def slices_Equal_uint32_uint32.l0 : Nat → List Int → List Int → Int → Int → Option (Bool)
 | 0, _, _, _, _ => none
 | k + 1, x0, x1, x12, x13 => if x13 < x12 then (if 0 ≤ x13 then (if x13 < (x0.length : Int) then (if x13 < (x1.length : Int) then (if (rd x0 x13) = (rd x1 x13) then (slices_Equal_uint32_uint32.l0 k x0 x1 x12 (wrap64 (x13 + 1))) else (some false)) else (none)) else (none)) else (none)) else (some true)
def slices_Equal_uint32_uint32.f (k : Nat) (l0 : List Int) (l1 : List Int) : Option (Bool) := if (l0.length : Int) = (l1.length : Int) then (slices_Equal_uint32_uint32.l0 k l0 l1 (l0.length : Int) 0) else (some false)
theorem slices_Equal_uint32_uint32.calls (k : Nat) (A0 : Option Addr) (c0 : Nat) (l0 : List Int) (A1 : Option Addr) (c1 : Nat) (l1 : List Int) (r : Bool) (w : World) (hr0 : Kd.C (Kd.int .u32) w A0 l0.length l0) (hc0 : l0.length ≤ c0) (hr1 : Kd.C (Kd.int .u32) w A1 l1.length l1) (hc1 : l1.length ≤ c1) (h : slices_Equal_uint32_uint32.f k l0 l1 = some r) :
  Calls Tryz.prog 73 #[.slice A0 l0.length c0, .slice A1 l1.length c1] w fun e w' => e = .returned (.bool r) ∧ Drawn0 w w' := by
 have HR0 := Aside0.mk hr0; have HC0 := Aside0.mk hc0; clear hr0 hc0; have HR1 := Aside0.mk hr1; have HC1 := Aside0.mk hc1; clear hr1 hc1; unfold slices_Equal_uint32_uint32.f at h; have H := h; clear h; replace H := Yi H; rcases H with ⟨c3, H⟩ | ⟨c3, H⟩
 ·obtain ⟨c3b0, c3b1⟩ := Ye c3; have c3b2 : (l0.length == l1.length) = true := Z25; clear c3; have H' := Aside0.mk H; clear H; go_enter Tryz.func73, Tryz.ntmps73
  go_wp2
  repeat (go_quiet (fail); try go_wp2)
  go_loopg [13] k (fun kq v13 w' => ∃ (x13_1 : Int), v13 = .int .i64 x13_1 ∧ Aside0 (slices_Equal_uint32_uint32.l0 kq l0 l1 (l0.length : Int) x13_1 = some r) ∧ Aside0 (kq ≤ k) ∧ Drawn0 w w')
  case atStart => exact ⟨(0), Z2, H', ⟨Nat.le_refl _⟩, Z3⟩
  case round =>
   clear H'; (try clear c1); (try clear p2); (try clear c3); (try clear c3b0); (try clear c3b1); (try clear c3b2); obtain ⟨x13_1, rfl, HA, HK1, ⟨m1, rfl⟩⟩ := hrel
   cases gk with
   | zero => exact absurd HA.out (by simp [slices_Equal_uint32_uint32.l0])
   | succ k1 =>
    have H := HA.out; clear HA; simp only [slices_Equal_uint32_uint32.l0] at H; replace H := Yi H; rcases H with ⟨c4, H⟩ | ⟨c4, H⟩
    ·have c4b0 := decide_eq_true c4; clear c4; replace H := Yg H; obtain ⟨c5, H⟩ := H; have c5b0 := decide_eq_true c5; clear c5; replace H := Yg H; obtain ⟨c6, H⟩ := H; have c6b0 := decide_eq_true c6; clear c6; replace H := Yg H; obtain ⟨c7, H⟩ := H; have c7b0 := decide_eq_true c7; clear c7; replace H := Yi H; rcases H with ⟨c8, H⟩ | ⟨c8, H⟩
     ·obtain ⟨c8b0, c8b1⟩ := Ye c8; clear c8; have H' := Aside0.mk H; clear H; have p446 : 0 ≤ (x13_1 : Int) := of_decide_eq_true Z5; have q446 : x13_1 < (l0.length : Int) := of_decide_eq_true Z5; obtain ⟨ad446, e446, hx446_0⟩ := Kd.at_int HR0.out x13_1 p446 q446
      cases e446
      replace p446 := eq_true p446; replace q446 := eq_true q446; have p447 : 0 ≤ (x13_1 : Int) := of_decide_eq_true Z5; have q447 : x13_1 < (l1.length : Int) := of_decide_eq_true Z5; obtain ⟨ad447, e447, hx447_0⟩ := Kd.at_int HR1.out x13_1 p447 q447
      cases e447
      replace p447 := eq_true p447; replace q447 := eq_true q447
      go_wp2
      repeat (go_quiet (fail); try go_wp2)
      go_roundg k1
      case measure => have := HK1.out; omega
      case rel => exact ⟨(wrap64 (x13_1 + 1)), Z2, H', ⟨Z6⟩, Z3⟩
     obtain ⟨c8b0, c8b1⟩ := Yn c8; obtain rfl := Option.some.inj H; have p446 : 0 ≤ (x13_1 : Int) := of_decide_eq_true Z5; have q446 : x13_1 < (l0.length : Int) := of_decide_eq_true Z5; obtain ⟨ad446, e446, hx446_0⟩ := Kd.at_int HR0.out x13_1 p446 q446
     cases e446
     replace p446 := eq_true p446; replace q446 := eq_true q446; have p447 : 0 ≤ (x13_1 : Int) := of_decide_eq_true Z5; have q447 : x13_1 < (l1.length : Int) := of_decide_eq_true Z5; obtain ⟨ad447, e447, hx447_0⟩ := Kd.at_int HR1.out x13_1 p447 q447
     cases e447
     replace p447 := eq_true p447; replace q447 := eq_true q447
     go_wp2
     repeat (go_quiet (fail); try go_wp2)
     go_ret
     exact ⟨Z2, Z3⟩
    have c4b0 := decide_eq_false c4; clear c4; obtain rfl := Option.some.inj H
    go_wp2
    repeat (go_quiet (fail); try go_wp2)
    go_ret
    exact ⟨Z2, Z3⟩
 obtain ⟨c3b0, c3b1⟩ := Yn c3; have c3b2 : (l0.length == l1.length) = false := Z25; obtain rfl := Option.some.inj H; go_enter Tryz.func73, Tryz.ntmps73
 go_wp2
 repeat (go_quiet (fail); try go_wp2)
 go_ret
 exact ⟨Z2, Z3⟩

def impl_Decode.l0 : Nat → Int → Int → Int → Option (Int × Int)
 | 0, _, _, _ => none
 | k + 1, x0, x1, x11 => if x11 < 48 then ((impl_WidthOf.f x11).bind fun t449 => (if t449 ≤ x1 then (if 0 ≤ (wrap64 (x1 - t449)) then (if 0 ≤ t449 then ((impl_BitsOf.f x11).bind fun t450 => (if (Go.bits .and .u32 (shr .u32 x0 (wrap64 (x1 - t449))) (((shl .u32 1 t449) - 1) % 4294967296)) = t450 then (some (x11, t449)) else (impl_Decode.l0 k x0 x1 (wrap64 (x11 + 1))))) else (none)) else (none)) else (impl_Decode.l0 k x0 x1 (wrap64 (x11 + 1))))) else (some ((-1), 0))
def impl_Decode.f (k : Nat) (a0 : Int) (a1 : Int) : Option (Int × Int) := (impl_within.f a1 1 32).bind fun t448 => (if t448 = true then (impl_Decode.l0 k a0 a1 0) else (some ((-1), 0)))
theorem impl_Decode.calls (k : Nat) (a0 : Int) (a1 : Int) (r1 : Int) (r2 : Int) (w : World) (h : impl_Decode.f k a0 a1 = some (r1, r2)) :
  Calls Tryz.prog 99 #[.int .u32 a0, .int .i64 a1] w fun e w' => e = .returned (.tuple #[.int .i64 r1, .int .i64 r2]) ∧ Drawn0 w w' := by
 unfold impl_Decode.f at h; have H := h; clear h; replace H := Yd H; obtain ⟨t448, A3, H⟩ := H; (try dsimp only at H); by_cases c4 : t448 = true
 ·subst c4; replace H := Yt H; have H' := Aside0.mk H; clear H; go_enter Tryz.func99, Tryz.ntmps99
  go_wp2_with (first | (go_at_call 110; (with_reducible refine (impl_within.calls a1 1 32 true _ A3.out).mono ?_); rintro e w' ⟨rfl, ⟨nd, rfl⟩⟩; (try first | exact ⟨rfl, _, World.drewN_drewN _ _ _⟩ | exact ⟨rfl, _, Eq.trans (World.drewN_drewN _ _ _) (congrArg (World.drewN _) (Nat.add_assoc _ _ _))⟩)))
  repeat (go_quiet (first | (go_at_call 110; (with_reducible refine (impl_within.calls a1 1 32 true _ A3.out).mono ?_); rintro e w' ⟨rfl, ⟨nd, rfl⟩⟩; (try first | exact ⟨rfl, _, World.drewN_drewN _ _ _⟩ | exact ⟨rfl, _, Eq.trans (World.drewN_drewN _ _ _) (congrArg (World.drewN _) (Nat.add_assoc _ _ _))⟩))); try go_wp2_with (first | (go_at_call 110; (with_reducible refine (impl_within.calls a1 1 32 true _ A3.out).mono ?_); rintro e w' ⟨rfl, ⟨nd, rfl⟩⟩; (try first | exact ⟨rfl, _, World.drewN_drewN _ _ _⟩ | exact ⟨rfl, _, Eq.trans (World.drewN_drewN _ _ _) (congrArg (World.drewN _) (Nat.add_assoc _ _ _))⟩))))
  go_loopg [11] k (fun kq v11 w' => ∃ (x11_1 : Int), v11 = .int .i64 x11_1 ∧ Aside0 (impl_Decode.l0 kq a0 a1 x11_1 = some (r1, r2)) ∧ Aside0 (kq ≤ k) ∧ Drawn0 w w')
  case atStart => exact ⟨(0), Z2, H', ⟨Nat.le_refl _⟩, Z3⟩
  case round =>
   clear H'; (try clear p2); (try clear c4); obtain ⟨x11_1, rfl, HA, HK1, ⟨m1, rfl⟩⟩ := hrel
   cases gk with
   | zero => exact absurd HA.out (by simp [impl_Decode.l0])
   | succ k1 =>
    have H := HA.out; clear HA; simp only [impl_Decode.l0] at H; replace H := Yi H; rcases H with ⟨c5, H⟩ | ⟨c5, H⟩
    ·have c5b0 := decide_eq_true c5; clear c5; replace H := Yd H; obtain ⟨t449, A6, H⟩ := H; (try dsimp only at H); replace H := Yi H; rcases H with ⟨c7, H⟩ | ⟨c7, H⟩
     ·have c7b0 := decide_eq_true c7; clear c7; obtain ⟨ji8, hji8⟩ : ∃ j_ : Int, (wrap64 (a1 - t449)) = j_ := ⟨_, rfl⟩; replace H : (if 0 ≤ (ji8) then (if 0 ≤ t449 then ((impl_BitsOf.f x11_1).bind fun t450 => (if (Go.bits .and .u32 (shr .u32 a0 (ji8)) (((shl .u32 1 t449) - 1) % 4294967296)) = t450 then (some (x11_1, t449)) else (impl_Decode.l0 k1 a0 a1 (wrap64 (x11_1 + 1))))) else (none)) else (none)) = some (r1, r2) := Z26
      (try rw [hji8] at A6)
      have hji8w : (IntKind.i64.wrap (a1 - t449)) = ji8 := (i64_w _).trans hji8; replace H := Yg H; obtain ⟨c9, H⟩ := H; have c9b0 := eq_true c9; have c9b1 := decide_eq_true c9; clear c9; obtain ⟨ji10, hji10⟩ : ∃ j_ : Int, (shr .u32 a0 (ji8)) = j_ := ⟨_, rfl⟩; replace H : (if 0 ≤ t449 then ((impl_BitsOf.f x11_1).bind fun t450 => (if (Go.bits .and .u32 (ji10) (((shl .u32 1 t449) - 1) % 4294967296)) = t450 then (some (x11_1, t449)) else (impl_Decode.l0 k1 a0 a1 (wrap64 (x11_1 + 1))))) else (none)) = some (r1, r2) := Z27
      (try rw [hji10] at A6)
      have hji10_ : (a0 / 2 ^ min (ji8).toNat 32) = ji10 := hji10; have hji10z : (ji8) ≤ 32 → (a0 / 2 ^ (ji8).toNat) = ji10 := shr_small hji10; replace H := Yg H; obtain ⟨c11, H⟩ := H; have c11b0 := eq_true c11; have c11b1 := decide_eq_true c11; clear c11; obtain ⟨ji12, hji12⟩ : ∃ j_ : Int, (shl .u32 1 t449) = j_ := ⟨_, rfl⟩; replace H : ((impl_BitsOf.f x11_1).bind fun t450 => (if (Go.bits .and .u32 (ji10) (((ji12) - 1) % 4294967296)) = t450 then (some (x11_1, t449)) else (impl_Decode.l0 k1 a0 a1 (wrap64 (x11_1 + 1))))) = some (r1, r2) := Z28
      (try rw [hji12] at A6)
      have hji12_ : (IntKind.u32.wrap (1 * 2 ^ min t449.toNat 32)) = ji12 := hji12; have hji12z : t449 ≤ 32 → (IntKind.u32.wrap (1 * 2 ^ t449.toNat)) = ji12 := shl_small hji12; have hji12u : (IntKind.u32.wrap (2 ^ min t449.toNat 32)) = ji12 := by have h_ := hji12_; rw [Int.one_mul] at h_; exact h_
      have hji12v : t449 ≤ 32 → (IntKind.u32.wrap (2 ^ t449.toNat)) = ji12 := fun hle_ => by have h_ := hji12z hle_; rw [Int.one_mul] at h_; exact h_
      replace H := Yd H; obtain ⟨t450, A13, H⟩ := H; (try dsimp only at H); replace H := Yi H; rcases H with ⟨c14, H⟩ | ⟨c14, H⟩
      ·obtain ⟨c14b0, c14b1⟩ := Ye c14; clear c14; simp only [Option.some.injEq, Prod.mk.injEq] at H; obtain ⟨rfl, rfl⟩ := H
       go_wp2_with (first | (go_at_call 111; (with_reducible refine (impl_WidthOf.calls x11_1 t449 _ A6.out).mono ?_); rintro e w' ⟨rfl, ⟨nd, rfl⟩⟩; (try first | exact ⟨rfl, _, World.drewN_drewN _ _ _⟩ | exact ⟨rfl, _, Eq.trans (World.drewN_drewN _ _ _) (congrArg (World.drewN _) (Nat.add_assoc _ _ _))⟩)) | (go_at_call 112; (with_reducible refine (impl_BitsOf.calls x11_1 t450 _ A13.out).mono ?_); rintro e w' ⟨rfl, ⟨nd, rfl⟩⟩; (try first | exact ⟨rfl, _, World.drewN_drewN _ _ _⟩ | exact ⟨rfl, _, Eq.trans (World.drewN_drewN _ _ _) (congrArg (World.drewN _) (Nat.add_assoc _ _ _))⟩)))
       repeat (go_quiet (first | (go_at_call 111; (with_reducible refine (impl_WidthOf.calls x11_1 t449 _ A6.out).mono ?_); rintro e w' ⟨rfl, ⟨nd, rfl⟩⟩; (try first | exact ⟨rfl, _, World.drewN_drewN _ _ _⟩ | exact ⟨rfl, _, Eq.trans (World.drewN_drewN _ _ _) (congrArg (World.drewN _) (Nat.add_assoc _ _ _))⟩)) | (go_at_call 112; (with_reducible refine (impl_BitsOf.calls x11_1 t450 _ A13.out).mono ?_); rintro e w' ⟨rfl, ⟨nd, rfl⟩⟩; (try first | exact ⟨rfl, _, World.drewN_drewN _ _ _⟩ | exact ⟨rfl, _, Eq.trans (World.drewN_drewN _ _ _) (congrArg (World.drewN _) (Nat.add_assoc _ _ _))⟩))); try go_wp2_with (first | (go_at_call 111; (with_reducible refine (impl_WidthOf.calls x11_1 t449 _ A6.out).mono ?_); rintro e w' ⟨rfl, ⟨nd, rfl⟩⟩; (try first | exact ⟨rfl, _, World.drewN_drewN _ _ _⟩ | exact ⟨rfl, _, Eq.trans (World.drewN_drewN _ _ _) (congrArg (World.drewN _) (Nat.add_assoc _ _ _))⟩)) | (go_at_call 112; (with_reducible refine (impl_BitsOf.calls x11_1 t450 _ A13.out).mono ?_); rintro e w' ⟨rfl, ⟨nd, rfl⟩⟩; (try first | exact ⟨rfl, _, World.drewN_drewN _ _ _⟩ | exact ⟨rfl, _, Eq.trans (World.drewN_drewN _ _ _) (congrArg (World.drewN _) (Nat.add_assoc _ _ _))⟩))))
       go_ret2
       exact ⟨by first | rfl | (simp; done) | (simp only [← hji8, ← hji10, ← hji12] <;> (first | rfl | simp)) | (simp [*]; done), Z3⟩
      obtain ⟨c14b0, c14b1⟩ := Yn c14; have H' := Aside0.mk H; clear H
      go_wp2_with (first | (go_at_call 111; (with_reducible refine (impl_WidthOf.calls x11_1 t449 _ A6.out).mono ?_); rintro e w' ⟨rfl, ⟨nd, rfl⟩⟩; (try first | exact ⟨rfl, _, World.drewN_drewN _ _ _⟩ | exact ⟨rfl, _, Eq.trans (World.drewN_drewN _ _ _) (congrArg (World.drewN _) (Nat.add_assoc _ _ _))⟩)) | (go_at_call 112; (with_reducible refine (impl_BitsOf.calls x11_1 t450 _ A13.out).mono ?_); rintro e w' ⟨rfl, ⟨nd, rfl⟩⟩; (try first | exact ⟨rfl, _, World.drewN_drewN _ _ _⟩ | exact ⟨rfl, _, Eq.trans (World.drewN_drewN _ _ _) (congrArg (World.drewN _) (Nat.add_assoc _ _ _))⟩)))
      repeat (go_quiet (first | (go_at_call 111; (with_reducible refine (impl_WidthOf.calls x11_1 t449 _ A6.out).mono ?_); rintro e w' ⟨rfl, ⟨nd, rfl⟩⟩; (try first | exact ⟨rfl, _, World.drewN_drewN _ _ _⟩ | exact ⟨rfl, _, Eq.trans (World.drewN_drewN _ _ _) (congrArg (World.drewN _) (Nat.add_assoc _ _ _))⟩)) | (go_at_call 112; (with_reducible refine (impl_BitsOf.calls x11_1 t450 _ A13.out).mono ?_); rintro e w' ⟨rfl, ⟨nd, rfl⟩⟩; (try first | exact ⟨rfl, _, World.drewN_drewN _ _ _⟩ | exact ⟨rfl, _, Eq.trans (World.drewN_drewN _ _ _) (congrArg (World.drewN _) (Nat.add_assoc _ _ _))⟩))); try go_wp2_with (first | (go_at_call 111; (with_reducible refine (impl_WidthOf.calls x11_1 t449 _ A6.out).mono ?_); rintro e w' ⟨rfl, ⟨nd, rfl⟩⟩; (try first | exact ⟨rfl, _, World.drewN_drewN _ _ _⟩ | exact ⟨rfl, _, Eq.trans (World.drewN_drewN _ _ _) (congrArg (World.drewN _) (Nat.add_assoc _ _ _))⟩)) | (go_at_call 112; (with_reducible refine (impl_BitsOf.calls x11_1 t450 _ A13.out).mono ?_); rintro e w' ⟨rfl, ⟨nd, rfl⟩⟩; (try first | exact ⟨rfl, _, World.drewN_drewN _ _ _⟩ | exact ⟨rfl, _, Eq.trans (World.drewN_drewN _ _ _) (congrArg (World.drewN _) (Nat.add_assoc _ _ _))⟩))))
      go_roundg k1
      case measure => have := HK1.out; omega
      case rel => exact ⟨(wrap64 (x11_1 + 1)), Z2, H', ⟨Z6⟩, Z3⟩
     have c7b0 := decide_eq_false c7; clear c7; have H' := Aside0.mk H; clear H
     go_wp2_with (first | (go_at_call 111; (with_reducible refine (impl_WidthOf.calls x11_1 t449 _ A6.out).mono ?_); rintro e w' ⟨rfl, ⟨nd, rfl⟩⟩; (try first | exact ⟨rfl, _, World.drewN_drewN _ _ _⟩ | exact ⟨rfl, _, Eq.trans (World.drewN_drewN _ _ _) (congrArg (World.drewN _) (Nat.add_assoc _ _ _))⟩)))
     repeat (go_quiet (first | (go_at_call 111; (with_reducible refine (impl_WidthOf.calls x11_1 t449 _ A6.out).mono ?_); rintro e w' ⟨rfl, ⟨nd, rfl⟩⟩; (try first | exact ⟨rfl, _, World.drewN_drewN _ _ _⟩ | exact ⟨rfl, _, Eq.trans (World.drewN_drewN _ _ _) (congrArg (World.drewN _) (Nat.add_assoc _ _ _))⟩))); try go_wp2_with (first | (go_at_call 111; (with_reducible refine (impl_WidthOf.calls x11_1 t449 _ A6.out).mono ?_); rintro e w' ⟨rfl, ⟨nd, rfl⟩⟩; (try first | exact ⟨rfl, _, World.drewN_drewN _ _ _⟩ | exact ⟨rfl, _, Eq.trans (World.drewN_drewN _ _ _) (congrArg (World.drewN _) (Nat.add_assoc _ _ _))⟩))))
     go_roundg k1
     case measure => have := HK1.out; omega
     case rel => exact ⟨(wrap64 (x11_1 + 1)), Z2, H', ⟨Z6⟩, Z3⟩
    have c5b0 := decide_eq_false c5; clear c5; simp only [Option.some.injEq, Prod.mk.injEq] at H; obtain ⟨rfl, rfl⟩ := H
    go_wp2
    repeat (go_quiet (fail); try go_wp2)
    go_ret2
    exact ⟨Z2, Z3⟩
 replace c4 := Bool.eq_false_iff.mpr c4; subst c4; replace H := Yf H; simp only [Option.some.injEq, Prod.mk.injEq] at H; obtain ⟨rfl, rfl⟩ := H; go_enter Tryz.func99, Tryz.ntmps99
 go_wp2_with (first | (go_at_call 110; (with_reducible refine (impl_within.calls a1 1 32 false _ A3.out).mono ?_); rintro e w' ⟨rfl, ⟨nd, rfl⟩⟩; (try first | exact ⟨rfl, _, World.drewN_drewN _ _ _⟩ | exact ⟨rfl, _, Eq.trans (World.drewN_drewN _ _ _) (congrArg (World.drewN _) (Nat.add_assoc _ _ _))⟩)))
 repeat (go_quiet (first | (go_at_call 110; (with_reducible refine (impl_within.calls a1 1 32 false _ A3.out).mono ?_); rintro e w' ⟨rfl, ⟨nd, rfl⟩⟩; (try first | exact ⟨rfl, _, World.drewN_drewN _ _ _⟩ | exact ⟨rfl, _, Eq.trans (World.drewN_drewN _ _ _) (congrArg (World.drewN _) (Nat.add_assoc _ _ _))⟩))); try go_wp2_with (first | (go_at_call 110; (with_reducible refine (impl_within.calls a1 1 32 false _ A3.out).mono ?_); rintro e w' ⟨rfl, ⟨nd, rfl⟩⟩; (try first | exact ⟨rfl, _, World.drewN_drewN _ _ _⟩ | exact ⟨rfl, _, Eq.trans (World.drewN_drewN _ _ _) (congrArg (World.drewN _) (Nat.add_assoc _ _ _))⟩))))
 go_ret2
 exact ⟨Z2, Z3⟩

def impl_LetterAt.f (a0 : Int) : Option (Int) := (impl_within.f a0 0 47).bind fun t451 => (if t451 = true then ((impl_letters.f).bind fun t452 => (if 0 ≤ a0 then (if a0 < (t452.size : Int) then (some (bt t452 a0)) else (none)) else (none))) else (some 0))
theorem impl_LetterAt.calls (a0 : Int) (r : Int) (w : World) (h : impl_LetterAt.f a0 = some r) :
  Calls Tryz.prog 100 #[.int .i64 a0] w fun e w' => e = .returned (.int .u8 r) ∧ Drawn0 w w' := by
 unfold impl_LetterAt.f at h; have H := h; clear h; replace H := Yd H; obtain ⟨t451, A2, H⟩ := H; (try dsimp only at H); by_cases c3 : t451 = true
 ·subst c3; replace H := Yt H; replace H := Yd H; obtain ⟨t452, A4, H⟩ := H; (try dsimp only at H); replace H := Yg H; obtain ⟨c5, H⟩ := H; have c5b0 := decide_eq_true c5; clear c5; replace H := Yg H; obtain ⟨c6, H⟩ := H; have c6b0 := decide_eq_true c6; clear c6; obtain rfl := Option.some.inj H; go_enter Tryz.func100, Tryz.ntmps100
  go_wp2_with (first | ((with_reducible refine gate_callee (f := 110) rfl ?_); refine goesL_ (some 4) rfl rfl Tryz.func110 Z0 rfl #[.int .i64 a0, .int .i64 0, .int .i64 47] rfl Z10 ?_; (with_reducible refine (impl_within.calls a0 0 47 true _ A2.out).mono ?_); rintro e w' ⟨rfl, ⟨nd, rfl⟩⟩; refine ⟨_, rfl, ?_⟩) | ((with_reducible refine gate_callee (f := 121) rfl ?_); refine goesL_ (some 6) rfl rfl Tryz.func121 Z0 rfl #[] rfl Z10 ?_; (with_reducible refine (impl_letters.calls  t452 _ A4.out).mono ?_); rintro e w' ⟨rfl, ⟨nd, rfl⟩⟩; refine ⟨_, rfl, ?_⟩; have p7 : 0 ≤ (a0 : Int) := of_decide_eq_true Z5; have q7 : a0 < (t452.size : Int) := of_decide_eq_true Z5; have hx7 := bt_at t452 a0; replace p7 := eq_true p7; replace q7 := eq_true q7))
  go_ret
  exact ⟨Z2, Z3⟩
 replace c3 := Bool.eq_false_iff.mpr c3; subst c3; replace H := Yf H; obtain rfl := Option.some.inj H; go_enter Tryz.func100, Tryz.ntmps100
 go_wp2_with (first | ((with_reducible refine gate_callee (f := 110) rfl ?_); refine goesL_ (some 4) rfl rfl Tryz.func110 Z0 rfl #[.int .i64 a0, .int .i64 0, .int .i64 47] rfl Z10 ?_; (with_reducible refine (impl_within.calls a0 0 47 false _ A2.out).mono ?_); rintro e w' ⟨rfl, ⟨nd, rfl⟩⟩; refine ⟨_, rfl, ?_⟩))
 go_ret
 exact ⟨Z2, Z3⟩

def impl_UnpackOne.l0 : Nat → Int → List Int → Int → Option (ByteArray)
 | 0, _, _, _ => none
 | k + 1, x0, x3, x4 => if 0 ≤ x4 then (if (Go.bits .and .u32 x0 (((shl .u32 1 x4) - 1) % 4294967296)) = 0 then (some (strOfNums x3)) else ((impl_Decode.f k x0 x4).bind fun bt456 => (if bt456.1 < 1 then (some (strOfNums x3)) else ((impl_LetterAt.f bt456.1).bind fun t458 => (if x3.length < 140737488355328 then (impl_UnpackOne.l0 k x0 (x3 ++ [t458]) (wrap64 (x4 - bt456.2))) else (none)))))) else (none)
def impl_UnpackOne.f (k : Nat) (a0 : Int) : Option (ByteArray) := if a0 ≥ 268435456 then (some (⟨#[]⟩ : ByteArray)) else (impl_UnpackOne.l0 k a0 (([] : List Int)) 28)
theorem impl_UnpackOne.calls (k : Nat) (a0 : Int) (r : ByteArray) (w : World) (h : impl_UnpackOne.f k a0 = some r) :
  Calls Tryz.prog 75 #[.int .u32 a0] w fun e w' => e = .returned (.string r) ∧ Below w.heap.size w w' := by
 have HB := Z (Below.refl w.heap.size w); unfold impl_UnpackOne.f at h; have H := h; clear h; replace H := Yi H; rcases H with ⟨c2, H⟩ | ⟨c2, H⟩
 ·have c2b0 : decide (268435456 ≤ a0) = true := decide_eq_true c2; clear c2; obtain rfl := Option.some.inj H; go_enter Tryz.func75, Tryz.ntmps75
  go_wp2
  go_ret
  exact ⟨Z76, Z75⟩
 have c2b0 : decide (268435456 ≤ a0) = false := decide_eq_false c2; clear c2; obtain ⟨y453, hy453⟩ : ∃ y_ : List Int, y_ = (([] : List Int)) := ⟨_, rfl⟩; replace H : (impl_UnpackOne.l0 k a0 y453 28) = some r := Yy hy453 H; have Ny453 := Aside0.mk hy453; clear hy453; have H' := Aside0.mk H; clear H; go_enter Tryz.func75, Tryz.ntmps75
 go_wp2_with (first | ((with_reducible refine gate_dst (N := 9) rfl ?_); refine Kd.R_lit (Kd.int .u8) _ 5 (by rfl) (N := 9) (by rfl) (xs := ([] : List Int)) (inner := []) (ok := fun _ => True) (okp := fun _ => True) Z7 (Reps.none _ _) (fun _ hk => hk) trivial (Below.refl _ _) (Nat.le_refl _) (by simp) ?_; intro v454 w3 ho4 hb hg_ hnew_; clear hg_ hnew_; (first | rw [← Ny453.out] at ho4 | (simp only [Int.reduceToNat] at ho4; rw [← Ny453.out] at ho4)); have HO455 := Z (Kd.R_lower ho4 (below_size Z75)); replace HB := Z (below_step Z75 hb); clear hb ho4))
 go_loopg [3, 4] k (fun kq v3 v4 w' => ∃ (x3_1 : List Int) (x4_1 : Int), v4 = .int .i64 x4_1 ∧ Aside0 (impl_UnpackOne.l0 kq a0 x3_1 x4_1 = some r) ∧ Aside0 (kq ≤ k) ∧ Aside0 (Kd.R (Kd.int .u8) 5 w' w.heap.size (fun _ => True) v3 x3_1) ∧ Aside0 (Below w.heap.size w w'))
 case atStart => exact ⟨(y453), (28), Z2, H', ⟨Nat.le_refl _⟩, ⟨(Z11 HO455)⟩, ⟨Z75⟩⟩
 case round =>
  clear H'; (try clear c2); (try clear c2b0); (try clear p2); obtain ⟨x3_1, x4_1, rfl, HA, HK1, HO_3, HB⟩ := hrel
  cases gk with
  | zero => exact absurd HA.out (by simp [impl_UnpackOne.l0])
  | succ k1 =>
   have H := HA.out; clear HA; simp only [impl_UnpackOne.l0] at H; replace H := Yg H; obtain ⟨c5, H⟩ := H; have c5b0 := eq_true c5; have c5b1 := decide_eq_true c5; clear c5; obtain ⟨ji6, hji6⟩ : ∃ j_ : Int, (shl .u32 1 x4_1) = j_ := ⟨_, rfl⟩; replace H : (if (Go.bits .and .u32 a0 (((ji6) - 1) % 4294967296)) = 0 then (some (strOfNums x3_1)) else ((impl_Decode.f k1 a0 x4_1).bind fun bt456 => (if bt456.1 < 1 then (some (strOfNums x3_1)) else ((impl_LetterAt.f bt456.1).bind fun t458 => (if x3_1.length < 140737488355328 then (impl_UnpackOne.l0 k1 a0 (x3_1 ++ [t458]) (wrap64 (x4_1 - bt456.2))) else (none)))))) = some r := by first | (rw [hji6] at H; exact H) | (simp only [hji6] at H ⊢; exact H)
   have hji6_ : (IntKind.u32.wrap (1 * 2 ^ min x4_1.toNat 32)) = ji6 := hji6; have hji6z : x4_1 ≤ 32 → (IntKind.u32.wrap (1 * 2 ^ x4_1.toNat)) = ji6 := shl_small hji6; have hji6u : (IntKind.u32.wrap (2 ^ min x4_1.toNat 32)) = ji6 := by have h_ := hji6_; rw [Int.one_mul] at h_; exact h_
   have hji6v : x4_1 ≤ 32 → (IntKind.u32.wrap (2 ^ x4_1.toNat)) = ji6 := fun hle_ => by have h_ := hji6z hle_; rw [Int.one_mul] at h_; exact h_
   replace H := Yi H; rcases H with ⟨c7, H⟩ | ⟨c7, H⟩
   ·obtain ⟨c7b0, c7b1⟩ := Ye c7; clear c7; obtain rfl := Option.some.inj H; have hcv8 := own_string (P := Tryz.prog) Tryz.underlying22 Tryz.underlying5 Tryz.underlying9 (Kd.own_of_R HO_3.out); have hcw8 := fun nq_ : Nat => own_string (P := Tryz.prog) Tryz.underlying22 Tryz.underlying5 Tryz.underlying9 (Kd.own_of_R (Kd.R_drewN HO_3.out nq_))
    go_wp2
    go_ret
    exact ⟨Z80, Z75⟩
   obtain ⟨c7b0, c7b1⟩ := Yn c7; replace H := Yd H; obtain ⟨⟨t456, t457⟩, A9, H⟩ := H; (try dsimp only at H); replace H := Yi H; rcases H with ⟨c10, H⟩ | ⟨c10, H⟩
   ·have c10b0 := decide_eq_true c10; clear c10; obtain rfl := Option.some.inj H
    go_wp2_with (first | ((with_reducible refine gate_callee (f := 99) rfl ?_); refine goesL_ (some 19) rfl rfl Tryz.func99 Z0 rfl #[.int .u32 a0, .int .i64 x4_1] rfl Z10 ?_; (with_reducible refine (impl_Decode.calls k1 a0 x4_1 t456 t457 _ A9.out).mono ?_); rintro e w' ⟨rfl, ⟨nd, rfl⟩⟩; refine ⟨_, rfl, ?_⟩; have hcv11 := own_string (P := Tryz.prog) Tryz.underlying22 Tryz.underlying5 Tryz.underlying9 (Kd.own_of_R HO_3.out); have hcw11 := fun nq_ : Nat => own_string (P := Tryz.prog) Tryz.underlying22 Tryz.underlying5 Tryz.underlying9 (Kd.own_of_R (Kd.R_drewN HO_3.out nq_))))
    go_ret
    exact ⟨Z80, Z75⟩
   have c10b0 := decide_eq_false c10; clear c10; replace H := Yd H; obtain ⟨t458, A12, H⟩ := H; (try dsimp only at H); replace H := Yg H; obtain ⟨c13, H⟩ := H; have LMc13 := Aside0.mk c13; clear c13; obtain ⟨y459, hy459⟩ : ∃ y_ : List Int, y_ = (x3_1 ++ [t458]) := ⟨_, rfl⟩; replace H : (impl_UnpackOne.l0 k1 a0 y459 (wrap64 (x4_1 - t457))) = some r := Yy hy459 H; have Ny459 := Aside0.mk hy459; clear hy459; have H' := Aside0.mk H; clear H
   go_wp2_with (first | ((with_reducible refine gate_callee (f := 99) rfl ?_); refine goesL_ (some 19) rfl rfl Tryz.func99 Z0 rfl #[.int .u32 a0, .int .i64 x4_1] rfl Z10 ?_; (with_reducible refine (impl_Decode.calls k1 a0 x4_1 t456 t457 _ A9.out).mono ?_); rintro e w' ⟨rfl, ⟨nd, rfl⟩⟩; refine ⟨_, rfl, ?_⟩) | ((with_reducible refine gate_callee (f := 100) rfl ?_); refine goesL_ (some 26) rfl rfl Tryz.func100 Z0 rfl #[.int .i64 t456] rfl Z10 ?_; (with_reducible refine (impl_LetterAt.calls t456 t458 _ A12.out).mono ?_); rintro e w' ⟨rfl, ⟨nd, rfl⟩⟩; refine ⟨_, rfl, ?_⟩) | ((with_reducible refine gate_builtin (b := .append) (xs := #[.tmp 24, .tmp 27]) rfl ?_); at_builtin; refine Kd.R_append (Kd.int .u8) (w0 := w) w.heap.size rfl (.tmp 24) (.tmp 27) 22 5 (.int .u8 0) 1 rfl Tryz.underlying22 info5 rfl (by decide) (by omega) u3 x3_1 t458 [.int .u8 t458] (fun _ => True) (fun _ => False) rfl rfl ?aP (fun _ hk => hk.elim) ?aF ?aO ?aB ?aS ?aL ?_; (case aP => exact rfl); (case aB => exact Z75); (case aF => exact (fun _ _ => trivial)); (case aO => exact (Z11 HO_3)); (case aS => exact (below_size Z75)); (case aL => have := LMc13.out; omega); intro v460 w14 ho hb hg hat; rw [← Ny459.out] at ho; replace HB := Z (hb); have HO461 := Z (ho); clear HO_3; clear ho hb hg hat))
   go_roundg k1
   case measure => have := HK1.out; omega
   case rel => exact ⟨(y459), (wrap64 (x4_1 - t457)), Z2, H', ⟨Z6⟩, ⟨(Z11 HO461)⟩, ⟨Z75⟩⟩

def impl_Unpack.l0 : Nat → List Int → ByteArray → List Int → Int → Int → Option (ByteArray × Bool)
 | 0, _, _, _, _, _ => none
 | k + 1, x0, x4, x10, x11, x12 => if x12 < x11 then (if 0 ≤ x12 then (if x12 < (x10.length : Int) then ((impl_UnpackOne.f k (rd x10 x12)).bind fun t463 => (if x4.size + t463.size ≤ 9223372036854775807 then (impl_Unpack.l0 k x0 (x4 ++ t463) x10 x11 (wrap64 (x12 + 1))) else (none))) else (none)) else (none)) else ((impl_NameOk.f k x4).bind fun t464 => (if t464 = true then ((impl_Pack.f k x4).bind fun t465 => ((slices_Equal_uint32_uint32.f k t465 x0).bind fun t468 => (if t468 = true then (some (x4, true)) else (some ((⟨#[]⟩ : ByteArray), false))))) else (some ((⟨#[]⟩ : ByteArray), false))))
def impl_Unpack.f (k : Nat) (l0 : List Int) : Option (ByteArray × Bool) := if (l0.length : Int) > 24 then (some ((⟨#[]⟩ : ByteArray), false)) else (impl_Unpack.l0 k l0 (⟨#[]⟩ : ByteArray) l0 (l0.length : Int) 0)
theorem impl_Unpack.calls (k : Nat) (A0 : Option Addr) (c0 : Nat) (l0 : List Int) (r1 : ByteArray) (r2 : Bool) (w : World) (hr0 : Kd.C (Kd.int .u32) w A0 l0.length l0) (hc0 : l0.length ≤ c0) (h : impl_Unpack.f k l0 = some (r1, r2)) :
  Calls Tryz.prog 71 #[.slice A0 l0.length c0] w fun e w' => e = .returned (.tuple #[.string r1, .bool r2]) ∧ Below w.heap.size w w' := by
 have HR0 := Aside0.mk hr0; have HC0 := Aside0.mk hc0; clear hr0 hc0; have HB := Z (Below.refl w.heap.size w); unfold impl_Unpack.f at h; have H := h; clear h; replace H := Yi H; rcases H with ⟨c2, H⟩ | ⟨c2, H⟩
 ·have c2b0 : decide (24 < (l0.length : Int)) = true := decide_eq_true c2; have c2b1 : decide (24 < l0.length) = true := decide_eq_true (by omega); clear c2; simp only [Option.some.injEq, Prod.mk.injEq] at H; obtain ⟨rfl, rfl⟩ := H; go_enter Tryz.func71, Tryz.ntmps71
  go_wp2
  go_ret2
  exact ⟨Z76, Z75⟩
 have c2b0 : decide (24 < (l0.length : Int)) = false := decide_eq_false c2; have c2b1 : decide (24 < l0.length) = false := decide_eq_false (by omega); clear c2; have H' := Aside0.mk H; clear H; go_enter Tryz.func71, Tryz.ntmps71
 go_wp2
 go_loopg [4, 12] k (fun kq v4 v12 w' => ∃ (x4_1 : ByteArray) (x12_1 : Int), v4 = .string x4_1 ∧ v12 = .int .i64 x12_1 ∧ Aside0 (impl_Unpack.l0 kq l0 x4_1 l0 (l0.length : Int) x12_1 = some (r1, r2)) ∧ Aside0 (kq ≤ k) ∧ Aside0 (Below w.heap.size w w'))
 case atStart => exact ⟨((⟨#[]⟩ : ByteArray)), (0), Z2, Z2, H', ⟨Nat.le_refl _⟩, ⟨Z75⟩⟩
 case round =>
  clear H'; (try clear c2); (try clear c2b0); (try clear c2b1); (try clear p2); obtain ⟨x4_1, x12_1, rfl, rfl, HA, HK1, HB⟩ := hrel
  cases gk with
  | zero => exact absurd HA.out (by simp [impl_Unpack.l0])
  | succ k1 =>
   have H := HA.out; clear HA; simp only [impl_Unpack.l0] at H; replace H := Yi H; rcases H with ⟨c3, H⟩ | ⟨c3, H⟩
   ·have c3b0 := decide_eq_true c3; clear c3; replace H := Yg H; obtain ⟨c4, H⟩ := H; have c4b0 := decide_eq_true c4; clear c4; replace H := Yg H; obtain ⟨c5, H⟩ := H; have c5b0 := decide_eq_true c5; clear c5; replace H := Yd H; obtain ⟨t463, A6, H⟩ := H; (try dsimp only at H); replace H := Yg H; obtain ⟨c7, H⟩ := H; have c7b0 := eq_true c7; have c7b1 := decide_eq_true c7
    try have c7b2 : (9223372036854775807 < x4_1.size + t463.size) = False := eq_false (Nat.not_lt.2 c7)
    have H' := Aside0.mk H; clear H; have p462 : 0 ≤ (x12_1 : Int) := of_decide_eq_true Z5; have q462 : x12_1 < (l0.length : Int) := of_decide_eq_true Z5; obtain ⟨ad462, e462, hx462_0⟩ := Kd.at_int HR0.out x12_1 p462 q462
    cases e462
    replace hx462_0 := Yh HB.out hx462_0; replace p462 := eq_true p462; replace q462 := eq_true q462
    go_wp2_with (first | ((with_reducible refine gate_callee (f := 75) rfl ?_); refine goesL_ (some 18) rfl rfl Tryz.func75 Z0 rfl #[.int .u32 (rd l0 x12_1)] rfl Z10 ?_; (with_reducible refine (impl_UnpackOne.calls k1 (rd l0 x12_1) t463 _ A6.out).mono ?_); rintro e w8 ⟨rfl, hb⟩; refine ⟨_, rfl, ?_⟩; replace HB := Z (below_step Z75 hb); (try clear hb); (try clear hb2); (try clear hk); (try clear hi)))
    go_roundg k1
    case measure => have := HK1.out; omega
    case rel => exact ⟨(x4_1 ++ t463), (wrap64 (x12_1 + 1)), Z2, Z2, H', ⟨Z6⟩, ⟨Z75⟩⟩
   have c3b0 := decide_eq_false c3; clear c3; replace H := Yd H; obtain ⟨t464, A9, H⟩ := H; (try dsimp only at H); by_cases c10 : t464 = true
   ·subst c10; replace H := Yt H; replace H := Yd H; obtain ⟨t465, A11, H⟩ := H; (try dsimp only at H); replace H := Yd H; obtain ⟨t468, A12, H⟩ := H; (try dsimp only at H); by_cases c13 : t468 = true
    ·subst c13; replace H := Yt H; simp only [Option.some.injEq, Prod.mk.injEq] at H; obtain ⟨rfl, rfl⟩ := H
     go_wp2_with (first | ((with_reducible refine gate_callee (f := 88) rfl ?_); refine goesL_ (some 22) rfl rfl Tryz.func88 Z0 rfl #[.string x4_1] rfl Z10 ?_; (with_reducible refine (impl_NameOk.calls k1 x4_1 true _ A9.out).mono ?_); rintro e w' ⟨rfl, ⟨nd, rfl⟩⟩; refine ⟨_, rfl, ?_⟩) | (go_at_call 53; (with_reducible refine (impl_Pack.calls k1 x4_1 t465 _ A11.out).mono ?_); rintro e w14 ⟨v466, rfl, ho0, hb⟩; have HO467 := Z (Kd.R_lower ho0 (below_size Z75)); replace HB := Z (below_step Z75 hb); (try clear hb); (try clear hb2); (try clear hk); (try clear hi); (try clear ho0); obtain ⟨Ao15, co15, eo15⟩ := Kd.R_slice HO467.out; subst eo15) | (go_at_call 73; (with_reducible refine (slices_Equal_uint32_uint32.calls k1 _ _ t465 _ _ l0 true _ ?side1 ?side2 ?side3 ?side4 A12.out).mono ?_); (case side1 => exact (Z16 HO467)); (case side2 => exact (Kd.R_reads' HO467.out).2.1); (case side3 => exact (Z29 HR0)); (case side4 => exact HC0.out); rintro e w' ⟨rfl, ⟨nd, rfl⟩⟩))
     go_ret2
     exact ⟨Z76, Z75⟩
    replace c13 := Bool.eq_false_iff.mpr c13; subst c13; replace H := Yf H; simp only [Option.some.injEq, Prod.mk.injEq] at H; obtain ⟨rfl, rfl⟩ := H
    go_wp2_with (first | ((with_reducible refine gate_callee (f := 88) rfl ?_); refine goesL_ (some 22) rfl rfl Tryz.func88 Z0 rfl #[.string x4_1] rfl Z10 ?_; (with_reducible refine (impl_NameOk.calls k1 x4_1 true _ A9.out).mono ?_); rintro e w' ⟨rfl, ⟨nd, rfl⟩⟩; refine ⟨_, rfl, ?_⟩) | (go_at_call 53; (with_reducible refine (impl_Pack.calls k1 x4_1 t465 _ A11.out).mono ?_); rintro e w16 ⟨v466, rfl, ho0, hb⟩; have HO467 := Z (Kd.R_lower ho0 (below_size Z75)); replace HB := Z (below_step Z75 hb); (try clear hb); (try clear hb2); (try clear hk); (try clear hi); (try clear ho0); obtain ⟨Ao17, co17, eo17⟩ := Kd.R_slice HO467.out; subst eo17) | (go_at_call 73; (with_reducible refine (slices_Equal_uint32_uint32.calls k1 _ _ t465 _ _ l0 false _ ?side1 ?side2 ?side3 ?side4 A12.out).mono ?_); (case side1 => exact (Z16 HO467)); (case side2 => exact (Kd.R_reads' HO467.out).2.1); (case side3 => exact (Z29 HR0)); (case side4 => exact HC0.out); rintro e w' ⟨rfl, ⟨nd, rfl⟩⟩))
    go_ret2
    exact ⟨Z76, Z75⟩
   replace c10 := Bool.eq_false_iff.mpr c10; subst c10; replace H := Yf H; simp only [Option.some.injEq, Prod.mk.injEq] at H; obtain ⟨rfl, rfl⟩ := H
   go_wp2_with (first | ((with_reducible refine gate_callee (f := 88) rfl ?_); refine goesL_ (some 22) rfl rfl Tryz.func88 Z0 rfl #[.string x4_1] rfl Z10 ?_; (with_reducible refine (impl_NameOk.calls k1 x4_1 false _ A9.out).mono ?_); rintro e w' ⟨rfl, ⟨nd, rfl⟩⟩; refine ⟨_, rfl, ?_⟩))
   go_ret2
   exact ⟨Z76, Z75⟩

def impl_nameKind.l0 : Nat → Int → Int → Option (Int)
 | 0, _, _ => none
 | k + 1, x0, x3 => if x3 ≤ 6 then ((impl_nameTag.f x3).bind fun t469 => (if t469 = x0 then (some x3) else (impl_nameKind.l0 k x0 (wrap64 (x3 + 1))))) else (some 0)
def impl_nameKind.f (k : Nat) (a0 : Int) : Option (Int) := impl_nameKind.l0 k a0 1
theorem impl_nameKind.calls (k : Nat) (a0 : Int) (r : Int) (w : World) (h : impl_nameKind.f k a0 = some r) :
  Calls Tryz.prog 72 #[.int .u32 a0] w fun e w' => e = .returned (.int .i64 r) ∧ Drawn0 w w' := by
 unfold impl_nameKind.f at h; have H := h; clear h; have H' := Aside0.mk H; clear H; go_enter Tryz.func72, Tryz.ntmps72
 go_wp2
 go_loopg [3] k (fun kq v3 w' => ∃ (x3_1 : Int), v3 = .int .i64 x3_1 ∧ Aside0 (impl_nameKind.l0 kq a0 x3_1 = some r) ∧ Aside0 (kq ≤ k) ∧ Drawn0 w w')
 case atStart => exact ⟨(1), Z2, H', ⟨Nat.le_refl _⟩, Z3⟩
 case round =>
  clear H'; obtain ⟨x3_1, rfl, HA, HK1, ⟨m1, rfl⟩⟩ := hrel
  cases gk with
  | zero => exact absurd HA.out (by simp [impl_nameKind.l0])
  | succ k1 =>
   have H := HA.out; clear HA; simp only [impl_nameKind.l0] at H; replace H := Yi H; rcases H with ⟨c2, H⟩ | ⟨c2, H⟩
   ·have c2b0 := decide_eq_true c2; clear c2; replace H := Yd H; obtain ⟨t469, A3, H⟩ := H; (try dsimp only at H); replace H := Yi H; rcases H with ⟨c4, H⟩ | ⟨c4, H⟩
    ·obtain ⟨c4b0, c4b1⟩ := Ye c4; clear c4; obtain rfl := Option.some.inj H
     go_wp2_with (first | ((with_reducible refine gate_callee (f := 52) rfl ?_); refine goesL_ (some 9) rfl rfl Tryz.func52 Z0 rfl #[.int .i64 x3_1] rfl Z10 ?_; (with_reducible refine (impl_nameTag.calls x3_1 t469 _ A3.out).mono ?_); rintro e w' ⟨rfl, ⟨nd, rfl⟩⟩; refine ⟨_, rfl, ?_⟩))
     go_ret
     exact ⟨Z2, Z3⟩
    obtain ⟨c4b0, c4b1⟩ := Yn c4; have H' := Aside0.mk H; clear H
    go_wp2_with (first | ((with_reducible refine gate_callee (f := 52) rfl ?_); refine goesL_ (some 9) rfl rfl Tryz.func52 Z0 rfl #[.int .i64 x3_1] rfl Z10 ?_; (with_reducible refine (impl_nameTag.calls x3_1 t469 _ A3.out).mono ?_); rintro e w' ⟨rfl, ⟨nd, rfl⟩⟩; refine ⟨_, rfl, ?_⟩))
    go_roundg k1
    case measure => have := HK1.out; omega
    case rel => exact ⟨(wrap64 (x3_1 + 1)), Z2, H', ⟨Z6⟩, Z3⟩
   have c2b0 := decide_eq_false c2; clear c2; obtain rfl := Option.some.inj H
   go_wp2
   go_ret
   exact ⟨Z2, Z3⟩

def impl_FieldOk.f (k : Nat) (a0 : Int) : Option (Bool) := (impl_UnpackOne.f k a0).bind fun t470 => ((impl_Pack.f k t470).bind fun t471 => ((slices_Equal_uint32_uint32.f k t471 (([a0] : List Int))).bind fun t477 => (some t477)))
theorem impl_FieldOk.calls (k : Nat) (a0 : Int) (r : Bool) (w : World) (h : impl_FieldOk.f k a0 = some r) :
  Calls Tryz.prog 74 #[.int .u32 a0] w fun e w' => e = .returned (.bool r) ∧ Below w.heap.size w w' := by
 have HB := Z (Below.refl w.heap.size w); unfold impl_FieldOk.f at h; have H := h; clear h; replace H := Yd H; obtain ⟨t470, A2, H⟩ := H; (try dsimp only at H); replace H := Yd H; obtain ⟨t471, A3, H⟩ := H; (try dsimp only at H); obtain ⟨y474, hy474⟩ : ∃ y_ : List Int, y_ = (([a0] : List Int)) := ⟨_, rfl⟩; replace H : ((slices_Equal_uint32_uint32.f k t471 y474).bind fun t477 => (some t477)) = some r := Yy hy474 H; have Ny474 := Aside0.mk hy474; clear hy474; replace H := Yd H; obtain ⟨t477, A4, H⟩ := H; (try dsimp only at H); obtain rfl := Option.some.inj H; go_enter Tryz.func74, Tryz.ntmps74
 go_wp2_with (first | ((with_reducible refine gate_callee (f := 75) rfl ?_); refine goesL_ (some 4) rfl rfl Tryz.func75 Z0 rfl #[.int .u32 a0] rfl Z10 ?_; (with_reducible refine (impl_UnpackOne.calls k a0 t470 _ A2.out).mono ?_); rintro e w5 ⟨rfl, hb⟩; refine ⟨_, rfl, ?_⟩; replace HB := Z (below_step Z75 hb); (try clear hb); (try clear hb2); (try clear hk); (try clear hi)) | ((with_reducible refine gate_callee (f := 53) rfl ?_); refine goesL_ (some 5) rfl rfl Tryz.func53 Z0 rfl #[.string t470] rfl Z10 ?_; (with_reducible refine (impl_Pack.calls k t470 t471 _ A3.out).mono ?_); rintro e w6 ⟨v472, rfl, ho0, hb⟩; refine ⟨_, rfl, ?_⟩; have HO473 := Z (Kd.R_lower ho0 (below_size Z75)); replace HB := Z (below_step Z75 hb); (try clear hb); (try clear hb2); (try clear hk); (try clear hi); (try clear ho0)) | ((with_reducible refine gate_dst (N := 7) rfl ?_); refine Kd.R_lit (Kd.int .u32) _ 44 (by rfl) (N := 7) (by rfl) (xs := ([a0] : List Int)) (inner := [.int .u32 a0]) (ok := fun _ => True) (okp := fun _ => True) Z7 (Reps.one (show Kd.M (Kd.int .u32) _ _ _ a0 [.int .u32 a0] from rfl) (Reps.none _ _)) (fun _ hk => hk) trivial (Below.refl _ _) (Nat.le_refl _) (by simp) ?_; intro v475 w7 ho8 hb hg_ hnew_; clear hg_ hnew_; (first | rw [← Ny474.out] at ho8 | (simp only [Int.reduceToNat] at ho8; rw [← Ny474.out] at ho8)); have HO476 := Z (Kd.R_lower (Kd.R_new' ho8 (Kd.R_lt (Z11 HO473))) (below_size Z75)); replace HO473 := Z (Kd.R_elder' (Z11 HO473) (Kd.R_base ho8) hb); replace HB := Z (below_step Z75 hb); clear hb ho8; obtain ⟨Ao9, co9, eo9⟩ := Kd.R_slice HO473.out; subst eo9; obtain ⟨Ao10, co10, eo10⟩ := Kd.R_slice HO476.out; subst eo10) | ((with_reducible refine gate_callee (f := 73) rfl ?_); refine goesL_ (some 8) rfl rfl Tryz.func73 Z0 rfl #[.slice Ao9 t471.length co9, .slice Ao10 y474.length co10] rfl Z10 ?_; (with_reducible refine (slices_Equal_uint32_uint32.calls k _ _ t471 _ _ y474 t477 _ ?side1 ?side2 ?side3 ?side4 A4.out).mono ?_); (case side1 => exact (Z16 HO473)); (case side2 => exact (Kd.R_reads' HO473.out).2.1); (case side3 => exact (Z16 HO476)); (case side4 => exact (Kd.R_reads' HO476.out).2.1); rintro e w' ⟨rfl, ⟨nd, rfl⟩⟩; refine ⟨_, rfl, ?_⟩))
 go_ret
 exact ⟨Z76, Z75⟩

end Go.Proofs.YtfjmpdcflnaogaaGreatDoor.QFnNotes
