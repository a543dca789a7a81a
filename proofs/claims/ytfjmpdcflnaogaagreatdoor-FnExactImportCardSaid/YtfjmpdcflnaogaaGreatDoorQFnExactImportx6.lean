/-
Plain functions for the Go functions that a law reaches, each with a proof that the translation's call comes to just that; no conditions beyond those written in each.
-/
import Derived.Test.YtfjmpdcflnaogaaGreatDoorSFnExactImport
import Derived.Test.YtfjmpdcflnaogaaGreatDoorQFnExactImportx5
namespace Go.Proofs.YtfjmpdcflnaogaaGreatDoor.QFnExactImport
open Go.RowKit Go.Proofs.YtfjmpdcflnaogaaGreatDoorW.PrintWords Go.Proofs.YtfjmpdcflnaogaaGreatDoorW.PrintLast Go.Proofs.YtfjmpdcflnaogaaGreatDoorW.PrintMore
attribute [local go_sem] max2_int min2_int max_two min_two max_three min_three max_four min_four   -- for this text's walks alone
set_option linter.unusedVariables false
set_option maxHeartbeats 8000000
set_option maxRecDepth 100000
set_option linter.unusedSimpArgs false

theorem Yk6 {X W w1 : World} {g : Nat} {o : Obj} (h : Aside0 (X.heap[g]? = some o)) (hb : Below W.heap.size W w1) (e : X.heap[g]? = some o → W.heap[g]? = some o := by intro h_; repeat (first | (with_reducible exact h_) | (with_reducible first | refine blk_drewN ?_ _ | refine blk_drew ?_ | refine blk_alloc ?_ _) | refine blk_far ?_ (Aside0.out (by assumption)) _ | exact h_)) : w1.heap[g]? = some o := blk_below (e h.out) hb
def spec_LetterOf.l0 : Nat → Int → ByteArray → Int → Option (Int)
 | 0, _, _, _ => none
 | k + 1, x0, x3, x4 => if x4 < (x3.size : Int) then (if 0 ≤ x4 then (if (bt x3 x4) = x0 then (some x4) else (spec_LetterOf.l0 k x0 x3 (wrap64 (x4 + 1)))) else (none)) else (some (-1))
def spec_LetterOf.f (k : Nat) (a0 : Int) : Option (Int) := (spec_l02All.f).bind fun t402 => (spec_LetterOf.l0 k a0 t402 0)
theorem spec_LetterOf.calls (k : Nat) (a0 : Int) (r : Int) (w : World) (h : spec_LetterOf.f k a0 = some r) :
  Calls Tryz.prog 139 #[.int .u8 a0] w fun e w' => e = .returned (.int .i64 r) ∧ Drawn0 w w' := by
 unfold spec_LetterOf.f at h; have H := h; clear h; replace H := Yd H; obtain ⟨t402, A2, H⟩ := H; (try dsimp only at H); have H' := Aside0.mk H; clear H; go_enter Tryz.func139, Tryz.ntmps139
 go_wp2_with (first | ((with_reducible refine gate_callee (f := 120) rfl ?_); refine goesL_ (some 5) rfl rfl Tryz.func120 Z0 rfl #[] rfl Z8 ?_; (with_reducible refine (spec_l02All.calls  t402 _ A2.out).mono ?_); rintro e w' ⟨rfl, ⟨nd, rfl⟩⟩; refine ⟨_, rfl, ?_⟩))
 go_loopg [4] k (fun kq v4 w' => ∃ (x4_1 : Int), v4 = .int .i64 x4_1 ∧ Aside0 (spec_LetterOf.l0 kq a0 t402 x4_1 = some r) ∧ Aside0 (kq ≤ k) ∧ Drawn0 w w')
 case atStart => exact ⟨(0), Z2, H', ⟨Nat.le_refl _⟩, Z3⟩
 case round =>
  clear H'; (try clear c1); (try clear p2); obtain ⟨x4_1, rfl, HA, HK1, ⟨m1, rfl⟩⟩ := hrel
  cases gk with
  | zero => exact absurd HA.out (by simp [spec_LetterOf.l0])
  | succ k1 =>
   have H := HA.out; clear HA; simp only [spec_LetterOf.l0] at H; replace H := Yi H; rcases H with ⟨c3, H⟩ | ⟨c3, H⟩
   ·have c3b0 := decide_eq_true c3; clear c3; replace H := Yg H; obtain ⟨c4, H⟩ := H; have c4b0 := decide_eq_true c4; clear c4; replace H := Yi H; rcases H with ⟨c6, H⟩ | ⟨c6, H⟩
    ·obtain ⟨c6b0, c6b1⟩ := Ye c6; clear c6; obtain rfl := Option.some.inj H; have p5 : 0 ≤ (x4_1 : Int) := of_decide_eq_true Z7; have q5 : x4_1 < (t402.size : Int) := of_decide_eq_true Z7; have hx5 := bt_at t402 x4_1; replace p5 := eq_true p5; replace q5 := eq_true q5
     go_wp2
     go_ret
     exact ⟨Z2, Z3⟩
    obtain ⟨c6b0, c6b1⟩ := Yn c6; have H' := Aside0.mk H; clear H; have p5 : 0 ≤ (x4_1 : Int) := of_decide_eq_true Z7; have q5 : x4_1 < (t402.size : Int) := of_decide_eq_true Z7; have hx5 := bt_at t402 x4_1; replace p5 := eq_true p5; replace q5 := eq_true q5
    go_wp2
    go_roundg k1
    case measure => have := HK1.out; omega
    case rel => exact ⟨(wrap64 (x4_1 + 1)), Z2, H', ⟨Z9⟩, Z3⟩
   have c3b0 := decide_eq_false c3; clear c3; obtain rfl := Option.some.inj H
   go_wp2
   go_ret
   exact ⟨Z2, Z3⟩

def spec_NameOk.l0 : Nat → ByteArray → Int → Option (Bool)
 | 0, _, _ => none
 | k + 1, x0, x3 => if x3 < (x0.size : Int) then (if 0 ≤ x3 then ((spec_LetterOf.f k (bt x0 x3)).bind fun t404 => (if t404 < 1 then (some false) else (spec_NameOk.l0 k x0 (wrap64 (x3 + 1))))) else (none)) else (some true)
def spec_NameOk.f (k : Nat) (a0 : ByteArray) : Option (Bool) := (spec_l01In.f (a0.size : Int) 1 24).bind fun t403 => (if t403 = true then (spec_NameOk.l0 k a0 0) else (some false))
theorem spec_NameOk.calls (k : Nat) (a0 : ByteArray) (r : Bool) (w : World) (h : spec_NameOk.f k a0 = some r) :
  Calls Tryz.prog 118 #[.string a0] w fun e w' => e = .returned (.bool r) ∧ Drawn0 w w' := by
 unfold spec_NameOk.f at h; have H := h; clear h; replace H := Yd H; obtain ⟨t403, A2, H⟩ := H; (try dsimp only at H); by_cases c3 : t403 = true
 ·subst c3; replace H := Yt H; have H' := Aside0.mk H; clear H; go_enter Tryz.func118, Tryz.ntmps118
  go_wp2_with (first | ((with_reducible refine gate_callee (f := 115) rfl ?_); refine goesL_ (some 6) rfl rfl Tryz.func115 Z0 rfl #[.int .i64 (a0.size : Int), .int .i64 1, .int .i64 24] rfl Z8 ?_; (with_reducible refine (spec_l01In.calls (a0.size : Int) 1 24 true _ A2.out).mono ?_); rintro e w' ⟨rfl, ⟨nd, rfl⟩⟩; refine ⟨_, rfl, ?_⟩))
  go_loopg [3] k (fun kq v3 w' => ∃ (x3_1 : Int), v3 = .int .i64 x3_1 ∧ Aside0 (spec_NameOk.l0 kq a0 x3_1 = some r) ∧ Aside0 (kq ≤ k) ∧ Drawn0 w w')
  case atStart => exact ⟨(0), Z2, H', ⟨Nat.le_refl _⟩, Z3⟩
  case round =>
   clear H'; (try clear c1); (try clear p2); (try clear c3); obtain ⟨x3_1, rfl, HA, HK1, ⟨m1, rfl⟩⟩ := hrel
   cases gk with
   | zero => exact absurd HA.out (by simp [spec_NameOk.l0])
   | succ k1 =>
    have H := HA.out; clear HA; simp only [spec_NameOk.l0] at H; replace H := Yi H; rcases H with ⟨c4, H⟩ | ⟨c4, H⟩
    ·have c4b0 := decide_eq_true c4; clear c4; replace H := Yg H; obtain ⟨c5, H⟩ := H; have c5b0 := decide_eq_true c5; clear c5; replace H := Yd H; obtain ⟨t404, A7, H⟩ := H; (try dsimp only at H); replace H := Yi H; rcases H with ⟨c8, H⟩ | ⟨c8, H⟩
     ·have c8b0 := decide_eq_true c8; clear c8; obtain rfl := Option.some.inj H; have p6 : 0 ≤ (x3_1 : Int) := of_decide_eq_true Z7; have q6 : x3_1 < (a0.size : Int) := of_decide_eq_true Z7; have hx6 := bt_at a0 x3_1; replace p6 := eq_true p6; replace q6 := eq_true q6
      go_wp2_with (first | ((with_reducible refine gate_callee (f := 139) rfl ?_); refine goesL_ (some 17) rfl rfl Tryz.func139 Z0 rfl #[.int .u8 (bt a0 x3_1)] rfl Z8 ?_; (with_reducible refine (spec_LetterOf.calls k1 (bt a0 x3_1) t404 _ A7.out).mono ?_); rintro e w' ⟨rfl, ⟨nd, rfl⟩⟩; refine ⟨_, rfl, ?_⟩))
      go_ret
      exact ⟨Z2, Z3⟩
     have c8b0 := decide_eq_false c8; clear c8; have H' := Aside0.mk H; clear H; have p6 : 0 ≤ (x3_1 : Int) := of_decide_eq_true Z7; have q6 : x3_1 < (a0.size : Int) := of_decide_eq_true Z7; have hx6 := bt_at a0 x3_1; replace p6 := eq_true p6; replace q6 := eq_true q6
     go_wp2_with (first | ((with_reducible refine gate_callee (f := 139) rfl ?_); refine goesL_ (some 17) rfl rfl Tryz.func139 Z0 rfl #[.int .u8 (bt a0 x3_1)] rfl Z8 ?_; (with_reducible refine (spec_LetterOf.calls k1 (bt a0 x3_1) t404 _ A7.out).mono ?_); rintro e w' ⟨rfl, ⟨nd, rfl⟩⟩; refine ⟨_, rfl, ?_⟩))
     go_roundg k1
     case measure => have := HK1.out; omega
     case rel => exact ⟨(wrap64 (x3_1 + 1)), Z2, H', ⟨Z9⟩, Z3⟩
    have c4b0 := decide_eq_false c4; clear c4; obtain rfl := Option.some.inj H
    go_wp2
    go_ret
    exact ⟨Z2, Z3⟩
 replace c3 := Bool.eq_false_iff.mpr c3; subst c3; replace H := Yf H; obtain rfl := Option.some.inj H; go_enter Tryz.func118, Tryz.ntmps118
 go_wp2_with (first | ((with_reducible refine gate_callee (f := 115) rfl ?_); refine goesL_ (some 6) rfl rfl Tryz.func115 Z0 rfl #[.int .i64 (a0.size : Int), .int .i64 1, .int .i64 24] rfl Z8 ?_; (with_reducible refine (spec_l01In.calls (a0.size : Int) 1 24 false _ A2.out).mono ?_); rintro e w' ⟨rfl, ⟨nd, rfl⟩⟩; refine ⟨_, rfl, ?_⟩))
 go_ret
 exact ⟨Z2, Z3⟩

def spec_WidthOf.f (a0 : Int) : Option (Int) := (spec_l01In.f a0 0 7).bind fun t405 => (if t405 = true then (some 4) else ((spec_l01In.f a0 8 15).bind fun t406 => (if t406 = true then (some 5) else ((spec_l01In.f a0 16 47).bind fun t407 => (if t407 = true then (some 7) else (some 0))))))
theorem spec_WidthOf.calls (a0 : Int) (r : Int) (w : World) (h : spec_WidthOf.f a0 = some r) :
  Calls Tryz.prog 137 #[.int .i64 a0] w fun e w' => e = .returned (.int .i64 r) ∧ Drawn0 w w' := by
 unfold spec_WidthOf.f at h; have H := h; clear h; replace H := Yd H; obtain ⟨t405, A2, H⟩ := H; (try dsimp only at H); by_cases c3 : t405 = true
 ·subst c3; replace H := Yt H; obtain rfl := Option.some.inj H; go_enter Tryz.func137, Tryz.ntmps137
  go_wp2_with (first | ((with_reducible refine gate_callee (f := 115) rfl ?_); refine goesL_ (some 5) rfl rfl Tryz.func115 Z0 rfl #[.int .i64 a0, .int .i64 0, .int .i64 7] rfl Z8 ?_; (with_reducible refine (spec_l01In.calls a0 0 7 true _ A2.out).mono ?_); rintro e w' ⟨rfl, ⟨nd, rfl⟩⟩; refine ⟨_, rfl, ?_⟩))
  go_ret
  exact ⟨Z2, Z3⟩
 replace c3 := Bool.eq_false_iff.mpr c3; subst c3; replace H := Yf H; replace H := Yd H; obtain ⟨t406, A4, H⟩ := H; (try dsimp only at H); by_cases c5 : t406 = true
 ·subst c5; replace H := Yt H; obtain rfl := Option.some.inj H; go_enter Tryz.func137, Tryz.ntmps137
  go_wp2_with (first | ((with_reducible refine gate_callee (f := 115) rfl ?_); refine goesL_ (some 5) rfl rfl Tryz.func115 Z0 rfl #[.int .i64 a0, .int .i64 0, .int .i64 7] rfl Z8 ?_; (with_reducible refine (spec_l01In.calls a0 0 7 false _ A2.out).mono ?_); rintro e w' ⟨rfl, ⟨nd, rfl⟩⟩; refine ⟨_, rfl, ?_⟩) | ((with_reducible refine gate_callee (f := 115) rfl ?_); refine goesL_ (some 8) rfl rfl Tryz.func115 Z0 rfl #[.int .i64 a0, .int .i64 8, .int .i64 15] rfl Z8 ?_; (with_reducible refine (spec_l01In.calls a0 8 15 true _ A4.out).mono ?_); rintro e w' ⟨rfl, ⟨nd, rfl⟩⟩; refine ⟨_, rfl, ?_⟩))
  go_ret
  exact ⟨Z2, Z3⟩
 replace c5 := Bool.eq_false_iff.mpr c5; subst c5; replace H := Yf H; replace H := Yd H; obtain ⟨t407, A6, H⟩ := H; (try dsimp only at H); by_cases c7 : t407 = true
 ·subst c7; replace H := Yt H; obtain rfl := Option.some.inj H; go_enter Tryz.func137, Tryz.ntmps137
  go_wp2_with (first | ((with_reducible refine gate_callee (f := 115) rfl ?_); refine goesL_ (some 5) rfl rfl Tryz.func115 Z0 rfl #[.int .i64 a0, .int .i64 0, .int .i64 7] rfl Z8 ?_; (with_reducible refine (spec_l01In.calls a0 0 7 false _ A2.out).mono ?_); rintro e w' ⟨rfl, ⟨nd, rfl⟩⟩; refine ⟨_, rfl, ?_⟩) | ((with_reducible refine gate_callee (f := 115) rfl ?_); refine goesL_ (some 8) rfl rfl Tryz.func115 Z0 rfl #[.int .i64 a0, .int .i64 8, .int .i64 15] rfl Z8 ?_; (with_reducible refine (spec_l01In.calls a0 8 15 false _ A4.out).mono ?_); rintro e w' ⟨rfl, ⟨nd, rfl⟩⟩; refine ⟨_, rfl, ?_⟩) | ((with_reducible refine gate_callee (f := 115) rfl ?_); refine goesL_ (some 11) rfl rfl Tryz.func115 Z0 rfl #[.int .i64 a0, .int .i64 16, .int .i64 47] rfl Z8 ?_; (with_reducible refine (spec_l01In.calls a0 16 47 true _ A6.out).mono ?_); rintro e w' ⟨rfl, ⟨nd, rfl⟩⟩; refine ⟨_, rfl, ?_⟩))
  go_ret
  exact ⟨Z2, Z3⟩
 replace c7 := Bool.eq_false_iff.mpr c7; subst c7; replace H := Yf H; obtain rfl := Option.some.inj H; go_enter Tryz.func137, Tryz.ntmps137
 go_wp2_with (first | ((with_reducible refine gate_callee (f := 115) rfl ?_); refine goesL_ (some 5) rfl rfl Tryz.func115 Z0 rfl #[.int .i64 a0, .int .i64 0, .int .i64 7] rfl Z8 ?_; (with_reducible refine (spec_l01In.calls a0 0 7 false _ A2.out).mono ?_); rintro e w' ⟨rfl, ⟨nd, rfl⟩⟩; refine ⟨_, rfl, ?_⟩) | ((with_reducible refine gate_callee (f := 115) rfl ?_); refine goesL_ (some 8) rfl rfl Tryz.func115 Z0 rfl #[.int .i64 a0, .int .i64 8, .int .i64 15] rfl Z8 ?_; (with_reducible refine (spec_l01In.calls a0 8 15 false _ A4.out).mono ?_); rintro e w' ⟨rfl, ⟨nd, rfl⟩⟩; refine ⟨_, rfl, ?_⟩) | ((with_reducible refine gate_callee (f := 115) rfl ?_); refine goesL_ (some 11) rfl rfl Tryz.func115 Z0 rfl #[.int .i64 a0, .int .i64 16, .int .i64 47] rfl Z8 ?_; (with_reducible refine (spec_l01In.calls a0 16 47 false _ A6.out).mono ?_); rintro e w' ⟨rfl, ⟨nd, rfl⟩⟩; refine ⟨_, rfl, ?_⟩))
 go_ret
 exact ⟨Z2, Z3⟩

def spec_BitsOf.f (a0 : Int) : Option (Int) := (spec_WidthOf.f a0).bind fun t408 => (if t408 = 4 then (some ((a0) % 4294967296)) else (if t408 = 5 then (some ((wrap64 (a0 + 8)) % 4294967296)) else (if t408 = 7 then (some ((wrap64 (a0 + 80)) % 4294967296)) else (some 0))))
theorem spec_BitsOf.calls (a0 : Int) (r : Int) (w : World) (h : spec_BitsOf.f a0 = some r) :
  Calls Tryz.prog 138 #[.int .i64 a0] w fun e w' => e = .returned (.int .u32 r) ∧ Drawn0 w w' := by
 unfold spec_BitsOf.f at h; have H := h; clear h; replace H := Yd H; obtain ⟨t408, A2, H⟩ := H; (try dsimp only at H); replace H := Yi H; rcases H with ⟨c3, H⟩ | ⟨c3, H⟩
 ·obtain ⟨c3b0, c3b1⟩ := Ye c3; clear c3; obtain rfl := Option.some.inj H; go_enter Tryz.func138, Tryz.ntmps138
  go_wp2_with (first | ((with_reducible refine gate_callee (f := 137) rfl ?_); refine goesL_ (some 4) rfl rfl Tryz.func137 Z0 rfl #[.int .i64 a0] rfl Z8 ?_; (with_reducible refine (spec_WidthOf.calls a0 t408 _ A2.out).mono ?_); rintro e w' ⟨rfl, ⟨nd, rfl⟩⟩; refine ⟨_, rfl, ?_⟩))
  go_ret
  exact ⟨Z2, Z3⟩
 obtain ⟨c3b0, c3b1⟩ := Yn c3; replace H := Yi H; rcases H with ⟨c4, H⟩ | ⟨c4, H⟩
 ·obtain ⟨c4b0, c4b1⟩ := Ye c4; clear c4; obtain rfl := Option.some.inj H; go_enter Tryz.func138, Tryz.ntmps138
  go_wp2_with (first | ((with_reducible refine gate_callee (f := 137) rfl ?_); refine goesL_ (some 4) rfl rfl Tryz.func137 Z0 rfl #[.int .i64 a0] rfl Z8 ?_; (with_reducible refine (spec_WidthOf.calls a0 t408 _ A2.out).mono ?_); rintro e w' ⟨rfl, ⟨nd, rfl⟩⟩; refine ⟨_, rfl, ?_⟩))
  go_ret
  exact ⟨Z2, Z3⟩
 obtain ⟨c4b0, c4b1⟩ := Yn c4; replace H := Yi H; rcases H with ⟨c5, H⟩ | ⟨c5, H⟩
 ·obtain ⟨c5b0, c5b1⟩ := Ye c5; clear c5; obtain rfl := Option.some.inj H; go_enter Tryz.func138, Tryz.ntmps138
  go_wp2_with (first | ((with_reducible refine gate_callee (f := 137) rfl ?_); refine goesL_ (some 4) rfl rfl Tryz.func137 Z0 rfl #[.int .i64 a0] rfl Z8 ?_; (with_reducible refine (spec_WidthOf.calls a0 t408 _ A2.out).mono ?_); rintro e w' ⟨rfl, ⟨nd, rfl⟩⟩; refine ⟨_, rfl, ?_⟩))
  go_ret
  exact ⟨Z2, Z3⟩
 obtain ⟨c5b0, c5b1⟩ := Yn c5; obtain rfl := Option.some.inj H; go_enter Tryz.func138, Tryz.ntmps138
 go_wp2_with (first | ((with_reducible refine gate_callee (f := 137) rfl ?_); refine goesL_ (some 4) rfl rfl Tryz.func137 Z0 rfl #[.int .i64 a0] rfl Z8 ?_; (with_reducible refine (spec_WidthOf.calls a0 t408 _ A2.out).mono ?_); rintro e w' ⟨rfl, ⟨nd, rfl⟩⟩; refine ⟨_, rfl, ?_⟩))
 go_ret
 exact ⟨Z2, Z3⟩

def spec_l03One.l0 : Nat → ByteArray → Int → Int → Int → Option (Int × Int)
 | 0, _, _, _, _ => none
 | k + 1, x0, x4, x5, x6 => if x6 < (x0.size : Int) then (if 0 ≤ x6 then ((spec_LetterOf.f k (bt x0 x6)).bind fun t409 => ((spec_WidthOf.f t409).bind fun t410 => (if t410 > x5 then (some ((x4) % 4294967296, x6)) else ((spec_BitsOf.f t409).bind fun t411 => (if 0 ≤ (IntKind.u64.wrap (wrap64 (x5 - t410))) then (spec_l03One.l0 k x0 (wrap64 (x4 + (shl .i64 (wrap64 (t411)) (IntKind.u64.wrap (wrap64 (x5 - t410)))))) (wrap64 (x5 - t410)) (wrap64 (x6 + 1))) else (none)))))) else (none)) else (some ((x4) % 4294967296, x6))
def spec_l03One.f (k : Nat) (a0 : ByteArray) : Option (Int × Int) := spec_l03One.l0 k a0 0 28 0
theorem spec_l03One.calls (k : Nat) (a0 : ByteArray) (r1 : Int) (r2 : Int) (w : World) (h : spec_l03One.f k a0 = some (r1, r2)) :
  Calls Tryz.prog 119 #[.string a0] w fun e w' => e = .returned (.tuple #[.int .u32 r1, .int .i64 r2]) ∧ Drawn0 w w' := by
 unfold spec_l03One.f at h; have H := h; clear h; have H' := Aside0.mk H; clear H; go_enter Tryz.func119, Tryz.ntmps119
 go_wp2
 go_loopg [4, 5, 6] k (fun kq v4 v5 v6 w' => ∃ (x4_1 : Int) (x5_1 : Int) (x6_1 : Int), v4 = .int .i64 x4_1 ∧ v5 = .int .i64 x5_1 ∧ v6 = .int .i64 x6_1 ∧ Aside0 (spec_l03One.l0 kq a0 x4_1 x5_1 x6_1 = some (r1, r2)) ∧ Aside0 (kq ≤ k) ∧ Drawn0 w w')
 case atStart => exact ⟨(0), (28), (0), Z2, Z2, Z2, H', ⟨Nat.le_refl _⟩, Z3⟩
 case round =>
  clear H'; (try clear c1); obtain ⟨x4_1, x5_1, x6_1, rfl, rfl, rfl, HA, HK1, ⟨m1, rfl⟩⟩ := hrel
  cases gk with
  | zero => exact absurd HA.out (by simp [spec_l03One.l0])
  | succ k1 =>
   have H := HA.out; clear HA; simp only [spec_l03One.l0] at H; replace H := Yi H; rcases H with ⟨c2, H⟩ | ⟨c2, H⟩
   ·have c2b0 := decide_eq_true c2; clear c2; replace H := Yg H; obtain ⟨c3, H⟩ := H; have c3b0 := decide_eq_true c3; clear c3; replace H := Yd H; obtain ⟨t409, A5, H⟩ := H; (try dsimp only at H); replace H := Yd H; obtain ⟨t410, A6, H⟩ := H; (try dsimp only at H); replace H := Yi H; rcases H with ⟨c7, H⟩ | ⟨c7, H⟩
    ·have c7b0 : decide (x5_1 < t410) = true := decide_eq_true c7; clear c7; simp only [Option.some.injEq, Prod.mk.injEq] at H; obtain ⟨rfl, rfl⟩ := H; have p4 : 0 ≤ (x6_1 : Int) := of_decide_eq_true Z7; have q4 : x6_1 < (a0.size : Int) := of_decide_eq_true Z7; have hx4 := bt_at a0 x6_1; replace p4 := eq_true p4; replace q4 := eq_true q4
     go_wp2_with (first | ((with_reducible refine gate_callee (f := 139) rfl ?_); refine goesL_ (some 16) rfl rfl Tryz.func139 Z0 rfl #[.int .u8 (bt a0 x6_1)] rfl Z8 ?_; (with_reducible refine (spec_LetterOf.calls k1 (bt a0 x6_1) t409 _ A5.out).mono ?_); rintro e w' ⟨rfl, ⟨nd, rfl⟩⟩; refine ⟨_, rfl, ?_⟩) | ((with_reducible refine gate_callee (f := 137) rfl ?_); refine goesL_ (some 18) rfl rfl Tryz.func137 Z0 rfl #[.int .i64 t409] rfl Z8 ?_; (with_reducible refine (spec_WidthOf.calls t409 t410 _ A6.out).mono ?_); rintro e w' ⟨rfl, ⟨nd, rfl⟩⟩; refine ⟨_, rfl, ?_⟩))
     go_ret2
     exact ⟨Z2, Z3⟩
    have c7b0 : decide (x5_1 < t410) = false := decide_eq_false c7; clear c7; replace H := Yd H; obtain ⟨t411, A8, H⟩ := H; (try dsimp only at H); obtain ⟨ji9, hji9⟩ : ∃ j_ : Int, (IntKind.u64.wrap (wrap64 (x5_1 - t410))) = j_ := ⟨_, rfl⟩; replace H : (if 0 ≤ (ji9) then (spec_l03One.l0 k1 a0 (wrap64 (x4_1 + (shl .i64 (wrap64 (t411)) (ji9)))) (wrap64 (x5_1 - t410)) (wrap64 (x6_1 + 1))) else (none)) = some (r1, r2) := Z50
    (try rw [hji9] at A5)
    (try rw [hji9] at A6)
    (try rw [hji9] at A8)
    replace H := Yg H; obtain ⟨c10, H⟩ := H; have c10b0 := eq_true c10; have c10b1 := decide_eq_true c10; clear c10; obtain ⟨ji11, hji11⟩ : ∃ j_ : Int, (shl .i64 (wrap64 (t411)) (ji9)) = j_ := ⟨_, rfl⟩; replace H : (spec_l03One.l0 k1 a0 (wrap64 (x4_1 + (ji11))) (wrap64 (x5_1 - t410)) (wrap64 (x6_1 + 1))) = some (r1, r2) := Z51
    (try rw [hji11] at A5)
    (try rw [hji11] at A6)
    (try rw [hji11] at A8)
    have hji11_ : (IntKind.i64.wrap ((wrap64 (t411)) * 2 ^ min (ji9).toNat 64)) = ji11 := hji11; have hji11z : (ji9) ≤ 64 → (IntKind.i64.wrap ((wrap64 (t411)) * 2 ^ (ji9).toNat)) = ji11 := shl_small hji11; have hji11y : (wrap64 ((wrap64 (t411)) * 2 ^ min (ji9).toNat 64)) = ji11 := (i64_w _).symm.trans hji11_; have hji11x : (ji9) ≤ 64 → (wrap64 ((wrap64 (t411)) * 2 ^ (ji9).toNat)) = ji11 := fun h_ => (i64_w _).symm.trans (hji11z h_)
    have H' := Aside0.mk H; clear H; have p4 : 0 ≤ (x6_1 : Int) := of_decide_eq_true Z7; have q4 : x6_1 < (a0.size : Int) := of_decide_eq_true Z7; have hx4 := bt_at a0 x6_1; replace p4 := eq_true p4; replace q4 := eq_true q4
    go_wp2_with (first | ((with_reducible refine gate_callee (f := 139) rfl ?_); refine goesL_ (some 16) rfl rfl Tryz.func139 Z0 rfl #[.int .u8 (bt a0 x6_1)] rfl Z8 ?_; (with_reducible refine (spec_LetterOf.calls k1 (bt a0 x6_1) t409 _ A5.out).mono ?_); rintro e w' ⟨rfl, ⟨nd, rfl⟩⟩; refine ⟨_, rfl, ?_⟩) | ((with_reducible refine gate_callee (f := 137) rfl ?_); refine goesL_ (some 18) rfl rfl Tryz.func137 Z0 rfl #[.int .i64 t409] rfl Z8 ?_; (with_reducible refine (spec_WidthOf.calls t409 t410 _ A6.out).mono ?_); rintro e w' ⟨rfl, ⟨nd, rfl⟩⟩; refine ⟨_, rfl, ?_⟩) | ((with_reducible refine gate_callee (f := 138) rfl ?_); refine goesL_ (some 27) rfl rfl Tryz.func138 Z0 rfl #[.int .i64 t409] rfl Z8 ?_; (with_reducible refine (spec_BitsOf.calls t409 t411 _ A8.out).mono ?_); rintro e w' ⟨rfl, ⟨nd, rfl⟩⟩; refine ⟨_, rfl, ?_⟩))
    go_roundg k1
    case measure => have := HK1.out; omega
    case rel => exact ⟨(wrap64 (x4_1 + (ji11))), (wrap64 (x5_1 - t410)), (wrap64 (x6_1 + 1)), (by first | rfl | (simp; done) | (simp only [← hji11] <;> (first | rfl | simp)) | (simp [*]; done)), Z2, Z2, H', ⟨Z9⟩, Z3⟩
   have c2b0 := decide_eq_false c2; clear c2; simp only [Option.some.injEq, Prod.mk.injEq] at H; obtain ⟨rfl, rfl⟩ := H
   go_wp2
   go_ret2
   exact ⟨Z2, Z3⟩

def spec_Pack.l0 : Nat → ByteArray → List Int → Option (List Int)
 | 0, _, _ => none
 | k + 1, x0, x3 => if x0.toList = ([] : List UInt8) then (some x3) else ((spec_l03One.f k x0).bind fun bt416 => (if x3.length < 35184372088832 then (if 0 ≤ bt416.2 then (if bt416.2 ≤ (x0.size : Int) then (spec_Pack.l0 k (x0.extract (bt416.2 : Int).toNat x0.size) (x3 ++ [bt416.1])) else (none)) else (none)) else (none)))
def spec_Pack.f (k : Nat) (a0 : ByteArray) : Option (List Int) := (some (([] : List Int) : List Int)).bind fun y412 => ((spec_NameOk.f k a0).bind fun t415 => (if t415 = true then (spec_Pack.l0 k a0 y412) else (some y412)))
theorem spec_Pack.calls (k : Nat) (a0 : ByteArray) (r : List Int) (w : World) (h : spec_Pack.f k a0 = some r) :
  Calls Tryz.prog 97 #[.string a0] w fun e w' => ∃ v0_ : Value, e = .returned (v0_) ∧ Kd.R (Kd.int .u32) 44 w' w.heap.size (fun _ => True) v0_ r ∧ Below w.heap.size w w' := by
 have HB := Z (Below.refl w.heap.size w); unfold spec_Pack.f at h; have H := h; clear h; obtain ⟨y412, hy412⟩ : ∃ y_ : List Int, y_ = (([] : List Int)) := ⟨_, rfl⟩; replace H : ((spec_NameOk.f k a0).bind fun t415 => (if t415 = true then (spec_Pack.l0 k a0 y412) else (some y412))) = some r := Yy hy412 H; have Ny412 := Aside0.mk hy412; clear hy412; replace H := Yd H; obtain ⟨t415, A2, H⟩ := H; (try dsimp only at H); by_cases c3 : t415 = true
 ·subst c3; replace H := Yt H; have H' := Aside0.mk H; clear H; go_enter Tryz.func97, Tryz.ntmps97
  go_wp2_with (first | ((with_reducible refine gate_dst (N := 6) rfl ?_); refine Kd.R_lit (Kd.int .u32) _ 44 (by rfl) (N := 6) (by rfl) (xs := ([] : List Int)) (inner := []) (ok := fun _ => True) (okp := fun _ => True) Z4 (Reps.none _ _) (fun _ hk => hk) trivial (Below.refl _ _) (Nat.le_refl _) (by simp) ?_; intro v413 w4 ho5 hb hg_ hnew_; clear hg_ hnew_; (first | rw [← Ny412.out] at ho5 | (simp only [Int.reduceToNat] at ho5; rw [← Ny412.out] at ho5)); have HO414 := Z (Kd.R_lower ho5 (below_size Z90)); replace HB := Z (below_step Z90 hb); clear hb ho5) | ((with_reducible refine gate_callee (f := 118) rfl ?_); refine goesL_ (some 8) rfl rfl Tryz.func118 Z0 rfl #[.string a0] rfl Z8 ?_; (with_reducible refine (spec_NameOk.calls k a0 true _ A2.out).mono ?_); rintro e w' ⟨rfl, ⟨nd, rfl⟩⟩; refine ⟨_, rfl, ?_⟩))
  go_loopg [0, 3] k (fun kq v0 v3 w' => ∃ (x0_1 : ByteArray) (x3_1 : List Int), v0 = .string x0_1 ∧ Aside0 (spec_Pack.l0 kq x0_1 x3_1 = some r) ∧ Aside0 (kq ≤ k) ∧ Aside0 (Kd.R (Kd.int .u32) 44 w' w.heap.size (fun _ => True) v3 x3_1) ∧ Aside0 (Below w.heap.size w w'))
  case atStart => exact ⟨(a0), (y412), Z2, H', ⟨Nat.le_refl _⟩, ⟨(Z6 HO414)⟩, ⟨Z90⟩⟩
  case round =>
   clear H'; (try clear c1); (try clear p2); (try clear c3); obtain ⟨x0_1, x3_1, rfl, HA, HK1, HO_3, HB⟩ := hrel
   cases gk with
   | zero => exact absurd HA.out (by simp [spec_Pack.l0])
   | succ k1 =>
    have H := HA.out; clear HA; simp only [spec_Pack.l0] at H; replace H := Yi H; rcases H with ⟨c6, H⟩ | ⟨c6, H⟩
    ·obtain ⟨c6b0, c6b1⟩ := Ye c6; clear c6; obtain rfl := Option.some.inj H
     go_wp2
     go_ret
     exact ⟨_, Z91, (Z6 HO_3), Z90⟩
    obtain ⟨c6b0, c6b1⟩ := Yn c6; replace H := Yd H; obtain ⟨⟨t416, t417⟩, A7, H⟩ := H; (try dsimp only at H); replace H := Yg H; obtain ⟨c8, H⟩ := H; have LMc8 := Aside0.mk c8; clear c8; obtain ⟨y418, hy418⟩ : ∃ y_ : List Int, y_ = (x3_1 ++ [t416]) := ⟨_, rfl⟩; replace H : (if 0 ≤ t417 then (if t417 ≤ (x0_1.size : Int) then (spec_Pack.l0 k1 (x0_1.extract (t417 : Int).toNat x0_1.size) y418) else (none)) else (none)) = some r := Yy hy418 H; have Ny418 := Aside0.mk hy418; clear hy418; replace H := Yg H; obtain ⟨c9, H⟩ := H; have c9b0 := eq_true c9; have c9b1 := decide_eq_true c9; clear c9; replace H := Yg H; obtain ⟨c10, H⟩ := H; have c10b0 := eq_true c10; have c10b1 := decide_eq_true c10; clear c10; have H' := Aside0.mk H; clear H
    go_wp2_with (first | ((with_reducible refine gate_callee (f := 119) rfl ?_); refine goesL_ (some 15) rfl rfl Tryz.func119 Z0 rfl #[.string x0_1] rfl Z8 ?_; (with_reducible refine (spec_l03One.calls k1 x0_1 t416 t417 _ A7.out).mono ?_); rintro e w' ⟨rfl, ⟨nd, rfl⟩⟩; refine ⟨_, rfl, ?_⟩) | ((with_reducible refine gate_builtin (b := .append) (xs := #[.tmp 18, .tmp 20]) rfl ?_); at_builtin; refine Kd.R_append (Kd.int .u32) (w0 := w) w.heap.size rfl (.tmp 18) (.tmp 20) 24 44 (.int .u32 0) 4 rfl Tryz.underlying24 info44 rfl (by decide) (by omega) u3 x3_1 t416 [.int .u32 t416] (fun _ => True) (fun _ => False) rfl rfl ?aP (fun _ hk => hk.elim) ?aF ?aO ?aB ?aS ?aL ?_; (case aP => exact rfl); (case aB => exact Z90); (case aF => exact (fun _ _ => trivial)); (case aO => exact (Z6 HO_3)); (case aS => exact (below_size Z90)); (case aL => have := LMc8.out; omega); intro v419 w11 ho hb hg hat; rw [← Ny418.out] at ho; replace HB := Z (hb); have HO420 := Z (ho); clear HO_3; clear ho hb hg hat))
    go_roundg k1
    case measure => have := HK1.out; omega
    case rel => exact ⟨(x0_1.extract (t417 : Int).toNat x0_1.size), (y418), Z2, H', ⟨Z9⟩, ⟨(Z6 HO420)⟩, ⟨Z90⟩⟩
 replace c3 := Bool.eq_false_iff.mpr c3; subst c3; replace H := Yf H; obtain rfl := Option.some.inj H; go_enter Tryz.func97, Tryz.ntmps97
 go_wp2_with (first | ((with_reducible refine gate_dst (N := 6) rfl ?_); refine Kd.R_lit (Kd.int .u32) _ 44 (by rfl) (N := 6) (by rfl) (xs := ([] : List Int)) (inner := []) (ok := fun _ => True) (okp := fun _ => True) Z4 (Reps.none _ _) (fun _ hk => hk) trivial (Below.refl _ _) (Nat.le_refl _) (by simp) ?_; intro v413 w12 ho13 hb hg_ hnew_; clear hg_ hnew_; (first | rw [← Ny412.out] at ho13 | (simp only [Int.reduceToNat] at ho13; rw [← Ny412.out] at ho13)); have HO414 := Z (Kd.R_lower ho13 (below_size Z90)); replace HB := Z (below_step Z90 hb); clear hb ho13) | ((with_reducible refine gate_callee (f := 118) rfl ?_); refine goesL_ (some 8) rfl rfl Tryz.func118 Z0 rfl #[.string a0] rfl Z8 ?_; (with_reducible refine (spec_NameOk.calls k a0 false _ A2.out).mono ?_); rintro e w' ⟨rfl, ⟨nd, rfl⟩⟩; refine ⟨_, rfl, ?_⟩))
 go_ret
 exact ⟨_, Z91, (Z6 HO414), Z90⟩

def spec_l04Word.l0 : Nat → Int → List Int → Int → Option (List Int)
 | 0, _, _, _ => none
 | k + 1, x0, x5, x6 => if x6 < (x5.length : Int) then (if 0 ≤ x6 then ((some (x5.set (x6 : Int).toNat (((rd x5 x6) * 16) % 4294967296) : List Int)).bind fun y425 => (if x6 = 0 then (spec_l04Word.l0 k x0 (y425.set (x6 : Int).toNat (((rd y425 x6) + x0) % 4294967296)) (wrap64 (x6 + 1))) else (spec_l04Word.l0 k x0 y425 (wrap64 (x6 + 1))))) else (none)) else (some x5)
def spec_l04Word.f (k : Nat) (a0 : Int) (a1 : ByteArray) : Option (List Int) := (spec_Pack.f k a1).bind fun t421 => (spec_l04Word.l0 k a0 t421 0)
theorem spec_l04Word.calls (k : Nat) (a0 : Int) (a1 : ByteArray) (r : List Int) (w : World) (h : spec_l04Word.f k a0 a1 = some r) :
  Calls Tryz.prog 66 #[.int .u32 a0, .string a1] w fun e w' => ∃ v0_ : Value, e = .returned (v0_) ∧ Kd.R (Kd.int .u32) 44 w' w.heap.size (fun _ => True) v0_ r ∧ Below w.heap.size w w' := by
 have HB := Z (Below.refl w.heap.size w); unfold spec_l04Word.f at h; have H := h; clear h; replace H := Yd H; obtain ⟨t421, A3, H⟩ := H; (try dsimp only at H); have H' := Aside0.mk H; clear H; go_enter Tryz.func66, Tryz.ntmps66
 go_wp2_with (first | ((with_reducible refine gate_callee (f := 97) rfl ?_); refine goesL_ (some 8) rfl rfl Tryz.func97 Z0 rfl #[.string a1] rfl Z8 ?_; (with_reducible refine (spec_Pack.calls k a1 t421 _ A3.out).mono ?_); rintro e w4 ⟨v422, rfl, ho0, hb⟩; refine ⟨_, rfl, ?_⟩; have HO423 := Z (Kd.R_lower ho0 (below_size Z90)); replace HB := Z (below_step Z90 hb); (try clear hb); (try clear hb2); (try clear hk); (try clear hi); (try clear ho0)))
 go_loopg [6] k (fun kq v6 w' => ∃ (x5_1 : List Int) (x6_1 : Int), v6 = .int .i64 x6_1 ∧ Aside0 (spec_l04Word.l0 kq a0 x5_1 x6_1 = some r) ∧ Aside0 (kq ≤ k) ∧ Aside0 (Kd.R (Kd.int .u32) 44 w' w.heap.size (fun _ => True) v422 x5_1) ∧ Aside0 (Below w.heap.size w w'))
 case atStart => exact ⟨(t421), (0), Z2, H', ⟨Nat.le_refl _⟩, ⟨(Z6 HO423)⟩, ⟨Z90⟩⟩
 case round =>
  clear H'; (try clear p2); obtain ⟨x5_1, x6_1, rfl, HA, HK1, HO_5, HB⟩ := hrel
  cases gk with
  | zero => exact absurd HA.out (by simp [spec_l04Word.l0])
  | succ k1 =>
   have H := HA.out; clear HA; simp only [spec_l04Word.l0] at H; replace H := Yi H; rcases H with ⟨c5, H⟩ | ⟨c5, H⟩
   ·have c5b0 := decide_eq_true c5; clear c5; replace H := Yg H; obtain ⟨c6, H⟩ := H; have c6b0 := decide_eq_true c6; clear c6; obtain ⟨y425, hy425⟩ : ∃ y_ : List Int, y_ = (x5_1.set (x6_1 : Int).toNat (((rd x5_1 x6_1) * 16) % 4294967296)) := ⟨_, rfl⟩; replace H : (if x6_1 = 0 then (spec_l04Word.l0 k1 a0 (y425.set (x6_1 : Int).toNat (((rd y425 x6_1) + a0) % 4294967296)) (wrap64 (x6_1 + 1))) else (spec_l04Word.l0 k1 a0 y425 (wrap64 (x6_1 + 1)))) = some r := Yy hy425 H; have Ny425 := Aside0.mk hy425; clear hy425; replace H := Yi H; rcases H with ⟨c8, H⟩ | ⟨c8, H⟩
    ·obtain ⟨c8b0, c8b1⟩ := Ye c8; clear c8; obtain ⟨y427, hy427⟩ : ∃ y_ : List Int, y_ = (y425.set (x6_1 : Int).toNat (((rd y425 x6_1) + a0) % 4294967296)) := ⟨_, rfl⟩; replace H : (spec_l04Word.l0 k1 a0 y427 (wrap64 (x6_1 + 1))) = some r := Yy hy427 H; have Ny427 := Aside0.mk hy427; clear hy427; have H' := Aside0.mk H; clear H; obtain ⟨Ao10, co10, eo10⟩ := Kd.R_slice HO_5.out; subst eo10; have p424 : 0 ≤ (x6_1 : Int) := of_decide_eq_true Z7; have q424 : x6_1 < (x5_1.length : Int) := of_decide_eq_true Z7; obtain ⟨ad424, e424, hx424_0⟩ := Kd.at_int (Kd.R_reads' HO_5.out).2.2 x6_1 p424 q424
     cases e424
     replace p424 := eq_true p424; replace q424 := eq_true q424; have p7 : 0 ≤ (x6_1 : Int) := of_decide_eq_true Z7; have q7 : (x6_1 : Int) < ((x5_1.length : Int) : Int) := of_decide_eq_true Z7; obtain ⟨go7, co7, eo7, gb7, gl7, cl7, HG7⟩ := Kd.R_form HO_5.out (by omega)
     (first | cases eo7 | (injection eo7 with ea_ en_ ec_; (first | subst ea_ | (injection ea_ with ea_; subst ea_)); subst ec_; clear en_))
     have GB7 := Aside0.mk gb7; have GG7 := Aside0.mk HG7; clear gb7 gl7 HG7
     (first | simp only [add_plain] at hx424_0 | skip)
     obtain ⟨hx7_0, hf7_0⟩ := Kd.R_celln 0 HO_5.out (x6_1 : Int) p7 q7; replace p7 := eq_true p7; replace q7 := eq_true q7; have HP11 := Kd.R_putg HO_5.out (x6_1 : Int) (((rd x5_1 x6_1) * 16) % 4294967296)
     go_wp2_with (first | ((with_reducible refine gate_store (t := 44) (p := 22) rfl ?_); refine store_event (t := 44) (p := 22) (v := ?vo_w12) (w1 := (wr.setCell ⟨go7, (x6_1 : Int).toNat, none⟩ (.int .u32 (((rd x5_1 x6_1) * 16) % 4294967296)))) (by rfl) (by rfl) (by rfl) Z4 ?_; intro w12 hw; have hg : wr.grownBy w12 (some go7) := (by rw [hw]; exact HP11.2); have hp_ : Kd.R (Kd.int .u32) 44 w12 w.heap.size (fun _ => True) (.slice (some ⟨go7, 0, none⟩) x5_1.length co10) y425 := (by rw [hw, Ny425.out]; exact HP11.1); clear HP11; replace HO_5 := Z (hp_); replace HB := Z ((by rw [hw]; exact below_set (HB.out) GB7.out : Below w.heap.size w w12)); clear hg hw hp_; have p426 : 0 ≤ (x6_1 : Int) := of_decide_eq_true Z7; have q426 : x6_1 < (y425.length : Int) := (by have h_ : (x6_1 : Int) < ((x5_1.length : Int) : Int) := of_decide_eq_true Z7; first | (have e_ := (Kd.R_reads' HO_5.out).1; omega) | simpa only [Ny425.out, List.length_set] using h_); have ql426 : ((x6_1 : Int) < ((x5_1.length : Int) : Int)) = True := eq_true (of_decide_eq_true Z7); obtain ⟨ad426, e426, hx426_0⟩ := Kd.at_int (Kd.R_reads' HO_5.out).2.2 x6_1 p426 q426; obtain rfl : (⟨go7, 0, none⟩ : Addr) = ad426 := (by injection e426); (first | simp only [add_plain] at hx426_0 | simp only [add_at] at hx426_0 | simp only [Addr.add, Nat.zero_add] at hx426_0 | skip); replace p426 := eq_true p426; replace q426 := eq_true q426; have p9 : 0 ≤ (x6_1 : Int) := of_decide_eq_true Z7; have q9 : (x6_1 : Int) < ((x5_1.length : Int) : Int) := of_decide_eq_true Z7; obtain ⟨hx9_0, hf9_0⟩ := Kd.R_celln 0 HO_5.out (x6_1 : Int) p9 q9; replace p9 := eq_true p9; replace q9 := eq_true q9; obtain ⟨hy13_, hz13_⟩ := Kd.R_celln 0 HO_5.out (x6_1 : Int) (of_decide_eq_true Z7) (of_decide_eq_true Z7); have HP13 := Kd.R_putg HO_5.out (x6_1 : Int) (((rd y425 x6_1) + a0) % 4294967296)) | ((with_reducible refine gate_store (t := 44) (p := 33) rfl ?_); refine store_event (t := 44) (p := 33) (v := ?vo_w14) (w1 := (w12.setCell ⟨go7, (x6_1 : Int).toNat, none⟩ (.int .u32 (((rd y425 x6_1) + a0) % 4294967296)))) (by rfl) (by rfl) (by rfl) Z4 ?_; intro w14 hw; have hg : w12.grownBy w14 (some go7) := (by rw [hw]; exact HP13.2); have hp_ : Kd.R (Kd.int .u32) 44 w14 w.heap.size (fun _ => True) (.slice (some ⟨go7, 0, none⟩) x5_1.length co10) y427 := (by rw [hw, Ny427.out]; exact HP13.1); clear HP13; replace HO_5 := Z (hp_); replace HB := Z ((by rw [hw]; exact below_set (HB.out) GB7.out : Below w.heap.size w w14)); clear hg hw hp_))
     go_roundg k1
     case measure => have := HK1.out; omega
     case rel => exact ⟨(y427), (wrap64 (x6_1 + 1)), Z2, H', ⟨Z9⟩, ⟨(Z6 HO_5)⟩, ⟨Z90⟩⟩
    obtain ⟨c8b0, c8b1⟩ := Yn c8; have H' := Aside0.mk H; clear H; obtain ⟨Ao15, co15, eo15⟩ := Kd.R_slice HO_5.out; subst eo15; have p424 : 0 ≤ (x6_1 : Int) := of_decide_eq_true Z7; have q424 : x6_1 < (x5_1.length : Int) := of_decide_eq_true Z7; obtain ⟨ad424, e424, hx424_0⟩ := Kd.at_int (Kd.R_reads' HO_5.out).2.2 x6_1 p424 q424
    cases e424
    replace p424 := eq_true p424; replace q424 := eq_true q424; have p7 : 0 ≤ (x6_1 : Int) := of_decide_eq_true Z7; have q7 : (x6_1 : Int) < ((x5_1.length : Int) : Int) := of_decide_eq_true Z7; obtain ⟨go7, co7, eo7, gb7, gl7, cl7, HG7⟩ := Kd.R_form HO_5.out (by omega)
    (first | cases eo7 | (injection eo7 with ea_ en_ ec_; (first | subst ea_ | (injection ea_ with ea_; subst ea_)); subst ec_; clear en_))
    have GB7 := Aside0.mk gb7; have GG7 := Aside0.mk HG7; clear gb7 gl7 HG7
    (first | simp only [add_plain] at hx424_0 | skip)
    obtain ⟨hx7_0, hf7_0⟩ := Kd.R_celln 0 HO_5.out (x6_1 : Int) p7 q7; replace p7 := eq_true p7; replace q7 := eq_true q7; have HP16 := Kd.R_putg HO_5.out (x6_1 : Int) (((rd x5_1 x6_1) * 16) % 4294967296)
    go_wp2_with (first | ((with_reducible refine gate_store (t := 44) (p := 22) rfl ?_); refine store_event (t := 44) (p := 22) (v := ?vo_w17) (w1 := (wr.setCell ⟨go7, (x6_1 : Int).toNat, none⟩ (.int .u32 (((rd x5_1 x6_1) * 16) % 4294967296)))) (by rfl) (by rfl) (by rfl) Z4 ?_; intro w17 hw; have hg : wr.grownBy w17 (some go7) := (by rw [hw]; exact HP16.2); have hp_ : Kd.R (Kd.int .u32) 44 w17 w.heap.size (fun _ => True) (.slice (some ⟨go7, 0, none⟩) x5_1.length co15) y425 := (by rw [hw, Ny425.out]; exact HP16.1); clear HP16; replace HO_5 := Z (hp_); replace HB := Z ((by rw [hw]; exact below_set (HB.out) GB7.out : Below w.heap.size w w17)); clear hg hw hp_))
    go_roundg k1
    case measure => have := HK1.out; omega
    case rel => exact ⟨(y425), (wrap64 (x6_1 + 1)), Z2, H', ⟨Z9⟩, ⟨(Z6 HO_5)⟩, ⟨Z90⟩⟩
   have c5b0 := decide_eq_false c5; clear c5; obtain rfl := Option.some.inj H; obtain ⟨Ao18, co18, eo18⟩ := Kd.R_slice HO_5.out; subst eo18
   go_wp2
   go_ret
   exact ⟨_, Z91, (Z6 HO_5), Z90⟩

def spec_l04Tag.f (a0 : Int) : Option (Int) := if a0 = 1 then (some 1) else (if a0 = 2 then (some 3) else (if a0 = 3 then (some 4) else (if a0 = 4 then (some 9) else (if a0 = 5 then (some 10) else (if a0 = 6 then (some 11) else (some 0))))))
theorem spec_l04Tag.calls (a0 : Int) (r : Int) (w : World) (h : spec_l04Tag.f a0 = some r) :
  Calls Tryz.prog 67 #[.int .i64 a0] w fun e w' => e = .returned (.int .u32 r) ∧ Drawn0 w w' := by
 unfold spec_l04Tag.f at h; have H := h; clear h; replace H := Yi H; rcases H with ⟨c2, H⟩ | ⟨c2, H⟩
 ·obtain ⟨c2b0, c2b1⟩ := Ye c2; clear c2; obtain rfl := Option.some.inj H; go_enter Tryz.func67, Tryz.ntmps67
  go_wp2
  go_ret
  exact ⟨Z2, Z3⟩
 obtain ⟨c2b0, c2b1⟩ := Yn c2; replace H := Yi H; rcases H with ⟨c3, H⟩ | ⟨c3, H⟩
 ·obtain ⟨c3b0, c3b1⟩ := Ye c3; clear c3; obtain rfl := Option.some.inj H; go_enter Tryz.func67, Tryz.ntmps67
  go_wp2
  go_ret
  exact ⟨Z2, Z3⟩
 obtain ⟨c3b0, c3b1⟩ := Yn c3; replace H := Yi H; rcases H with ⟨c4, H⟩ | ⟨c4, H⟩
 ·obtain ⟨c4b0, c4b1⟩ := Ye c4; clear c4; obtain rfl := Option.some.inj H; go_enter Tryz.func67, Tryz.ntmps67
  go_wp2
  go_ret
  exact ⟨Z2, Z3⟩
 obtain ⟨c4b0, c4b1⟩ := Yn c4; replace H := Yi H; rcases H with ⟨c5, H⟩ | ⟨c5, H⟩
 ·obtain ⟨c5b0, c5b1⟩ := Ye c5; clear c5; obtain rfl := Option.some.inj H; go_enter Tryz.func67, Tryz.ntmps67
  go_wp2
  go_ret
  exact ⟨Z2, Z3⟩
 obtain ⟨c5b0, c5b1⟩ := Yn c5; replace H := Yi H; rcases H with ⟨c6, H⟩ | ⟨c6, H⟩
 ·obtain ⟨c6b0, c6b1⟩ := Ye c6; clear c6; obtain rfl := Option.some.inj H; go_enter Tryz.func67, Tryz.ntmps67
  go_wp2
  go_ret
  exact ⟨Z2, Z3⟩
 obtain ⟨c6b0, c6b1⟩ := Yn c6; replace H := Yi H; rcases H with ⟨c7, H⟩ | ⟨c7, H⟩
 ·obtain ⟨c7b0, c7b1⟩ := Ye c7; clear c7; obtain rfl := Option.some.inj H; go_enter Tryz.func67, Tryz.ntmps67
  go_wp2
  go_ret
  exact ⟨Z2, Z3⟩
 obtain ⟨c7b0, c7b1⟩ := Yn c7; obtain rfl := Option.some.inj H; go_enter Tryz.func67, Tryz.ntmps67
 go_wp2
 go_ret
 exact ⟨Z2, Z3⟩

def spec_CellsOf.j0 : Nat → Bool → Int → ByteArray → Int → Bool → Int → Option (List Int)
 | 0, _, _, _, _, _, _ => none
 | k + 1, x3, x429000, x429001, x429002, x429003, x429004 => if x429000 = 0 then (if x429001.toList = ([] : List UInt8) then (if x429002 = 0 then (if x429003 = true then (some (([] : List Int))) else (some (([x429004] : List Int)))) else (some (([] : List Int)))) else (some (([] : List Int)))) else (if x429000 = 7 then (if x429001.toList = ([] : List UInt8) then (if x429004 = 0 then ((spec_l04Num.f x429002 x429003 8 2).bind fun t441 => (some t441)) else (some (([] : List Int)))) else (some (([] : List Int)))) else (if x429000 = 8 then (if x429001.toList = ([] : List UInt8) then (if x429004 = 0 then ((spec_l04Num.f x429002 x429003 6 5).bind fun t450 => (some t450)) else (some (([] : List Int)))) else (some (([] : List Int)))) else (if x429000 = 9 then ((spec_l04Word.f k 12 x429001).bind fun t459 => (if (t459.length : Int) = 1 then (if x429003 = true then (some (([] : List Int))) else (if x429004 = 0 then (if t459.length < 35184372088832 then (some (t459 ++ [(x429002) % 4294967296])) else (none)) else (some (([] : List Int))))) else (some (([] : List Int))))) else ((spec_l04Tag.f x429000).bind fun t474 => (if t474 > 0 then (if x3 = true then ((spec_l04Word.f k t474 x429001).bind fun t475 => (some t475)) else (some (([] : List Int)))) else (some (([] : List Int))))))))
def spec_CellsOf.f (k : Nat) (a0_0 : Int) (a0_1 : ByteArray) (a0_2 : Int) (a0_3 : Bool) (a0_4 : Int) : Option (List Int) := if a0_2 = 0 then (if a0_3 = true then (spec_CellsOf.j0 k false a0_0 a0_1 a0_2 a0_3 a0_4) else (spec_CellsOf.j0 k (a0_4 == 0) a0_0 a0_1 a0_2 a0_3 a0_4)) else (spec_CellsOf.j0 k false a0_0 a0_1 a0_2 a0_3 a0_4)
theorem spec_CellsOf.calls (k : Nat) (a0_0 : Int) (a0_1 : ByteArray) (a0_2 : Int) (a0_3 : Bool) (a0_4 : Int) (r : List Int) (w : World) (h : spec_CellsOf.f k a0_0 a0_1 a0_2 a0_3 a0_4 = some r) :
  Calls Tryz.prog 37 #[.agg #[.int .i64 a0_0, .string a0_1, .int .i32 a0_2, .bool a0_3, .int .u32 a0_4]] w fun e w' => ∃ v0_ : Value, e = .returned (v0_) ∧ Kd.R (Kd.int .u32) 44 w' w.heap.size (fun _ => True) v0_ r ∧ Below w.heap.size w w' := by
 have hu46 := Tryz.underlying46; have HB := Z (Below.refl w.heap.size w); unfold spec_CellsOf.f at h; have H := h; clear h; have HC2 := Aside0.mk H; clear H; go_enter Tryz.func37, Tryz.ntmps37
 go_upto_region 1 with (first | ((with_reducible refine gate_dst (N := 1) rfl ?_); refine box_event (by rfl) (N := 1) (by rfl) (cs := #[.int .i64 a0_0, .string a0_1, .int .i32 a0_2, .bool a0_3, .int .u32 a0_4]) (t := 46) Z4 ?_; intro gb428 hg w3 hbox hb; have BK428 := Z (hbox); have GW428 := Z ((Z124 : w.heap.size ≤ gb428)); have GE428 := Z ((Z124 : w.heap.size ≤ gb428)); replace HB := Z (below_step Z90 hb); clear hb hbox hg))
 (try simp only [Act.put, List.setIfInBounds_toArray, List.set_cons_zero, List.set_cons_succ])
 go_cut [3] (fun v3 wc => ∃ (kq : Nat) (x3_1 : Bool), v3 = .bool x3_1 ∧ Aside0 (spec_CellsOf.j0 kq x3_1 a0_0 a0_1 a0_2 a0_3 a0_4 = some r) ∧ Aside0 (kq ≤ k) ∧ Aside0 (wc.heap[gb428]? = some (.cells #[.int .i64 a0_0, .string a0_1, .int .i32 a0_2, .bool a0_3, .int .u32 a0_4] 46 (0, 0))) ∧ Aside0 (Below w.heap.size w wc))
 case first =>
  have H := HC2.out; clear HC2; replace H := Yi H; rcases H with ⟨c4, H⟩ | ⟨c4, H⟩
  ·obtain ⟨c4b0, c4b1⟩ := Ye c4; clear c4
   (first | rw [c4b0] | (simp only [i64_w, i32_w]; rw [c4b0]) | skip)
   by_cases c5 : a0_3 = true
   ·subst c5; replace H := Yt H; have H' := Aside0.mk H; clear H; have hcz6 := Yb5 BK428.out
    go_wp2
    go_meet
    case rel => exact ⟨_, (false), Z2, H', ⟨Z14⟩, ⟨(Z15 BK428)⟩, ⟨Z90⟩⟩
   replace c5 := Bool.eq_false_iff.mpr c5; subst c5; replace H := Yf H; have H' := Aside0.mk H; clear H; have hcz7 := Yb5 BK428.out
   go_wp2
   go_meet
   case rel => exact ⟨_, ((a0_4 == 0)), Z2, H', ⟨Z14⟩, ⟨(Z15 BK428)⟩, ⟨Z90⟩⟩
  obtain ⟨c4b0, c4b1⟩ := Yn c4
  (first | rw [c4b0] | (simp only [i64_w, i32_w]; rw [c4b0]) | skip)
  have H' := Aside0.mk H; clear H; have hcz8 := Yb5 BK428.out
  go_wp2
  go_meet
  case rel => exact ⟨_, (false), Z2, H', ⟨Z14⟩, ⟨(Z15 BK428)⟩, ⟨Z90⟩⟩
 case rest =>
  clear HC2; (try clear p2); (try clear c3); (try clear c4); (try clear c4b0); (try clear c4b1); (try clear c5); (try clear hcz6); (try clear hcz7); (try clear hcz8); obtain ⟨kq, x3_1, rfl, HA, HJ1, BK428, HB⟩ := hcut
  cases kq with
  | zero => exact absurd HA.out (by simp [spec_CellsOf.j0])
  | succ kj1 =>
   have H := HA.out; clear HA; simp only [spec_CellsOf.j0] at H; replace H := Yi H; rcases H with ⟨c9, H⟩ | ⟨c9, H⟩
   ·obtain ⟨c9b0, c9b1⟩ := Ye c9; clear c9; replace H := Yi H; rcases H with ⟨c10, H⟩ | ⟨c10, H⟩
    ·obtain ⟨c10b0, c10b1⟩ := Ye c10; clear c10; replace H := Yi H; rcases H with ⟨c11, H⟩ | ⟨c11, H⟩
     ·obtain ⟨c11b0, c11b1⟩ := Ye c11; clear c11; by_cases c12 : a0_3 = true
      ·subst c12; replace H := Yt H; obtain ⟨y429, hy429⟩ : ∃ y_ : List Int, y_ = (([] : List Int)) := ⟨_, rfl⟩; replace H : (some y429) = some r := Yy hy429 H; have Ny429 := Aside0.mk hy429; clear hy429; obtain rfl := Option.some.inj H; have hcz13 := Yb5 BK428.out
       go_wp2_with (first | ((with_reducible refine gate_dst (N := 105) rfl ?_); refine Kd.R_lit (Kd.int .u32) _ 44 (by rfl) (N := 105) (by rfl) (xs := ([] : List Int)) (inner := []) (ok := fun _ => True) (okp := fun _ => True) Z4 (Reps.none _ _) (fun _ hk => hk) trivial (Below.refl _ _) (Nat.le_refl _) (by simp) ?_; intro v430 w14 ho15 hb hg_ hnew_; clear hg_ hnew_; (first | rw [← Ny429.out] at ho15 | (simp only [Int.reduceToNat] at ho15; rw [← Ny429.out] at ho15)); have HO431 := Z (Kd.R_lower ho15 (below_size Z90)); replace BK428 := Z (Yk6 BK428 hb); replace HB := Z (below_step Z90 hb); clear hb ho15))
       go_ret
       exact ⟨_, Z91, (Z6 HO431), Z90⟩
      replace c12 := Bool.eq_false_iff.mpr c12; subst c12; replace H := Yf H; obtain ⟨y432, hy432⟩ : ∃ y_ : List Int, y_ = (([a0_4] : List Int)) := ⟨_, rfl⟩; replace H : (some y432) = some r := Yy hy432 H; have Ny432 := Aside0.mk hy432; clear hy432; obtain rfl := Option.some.inj H; have hcz16 := Yb5 BK428.out
      go_wp2_with (first | ((with_reducible refine gate_dst (N := 50) rfl ?_); refine Kd.R_lit (Kd.int .u32) _ 44 (by rfl) (N := 50) (by rfl) (xs := ([a0_4] : List Int)) (inner := [.int .u32 a0_4]) (ok := fun _ => True) (okp := fun _ => True) Z4 (Reps.one (show Kd.M (Kd.int .u32) _ _ _ a0_4 [.int .u32 a0_4] from rfl) (Reps.none _ _)) (fun _ hk => hk) trivial (Below.refl _ _) (Nat.le_refl _) (by simp) ?_; intro v433 w17 ho18 hb hg_ hnew_; clear hg_ hnew_; (first | rw [← Ny432.out] at ho18 | (simp only [Int.reduceToNat] at ho18; rw [← Ny432.out] at ho18)); have HO434 := Z (Kd.R_lower ho18 (below_size Z90)); replace BK428 := Z (Yk6 BK428 hb); replace HB := Z (below_step Z90 hb); clear hb ho18))
      go_ret
      exact ⟨_, Z91, (Z6 HO434), Z90⟩
     obtain ⟨c11b0, c11b1⟩ := Yn c11; obtain ⟨y435, hy435⟩ : ∃ y_ : List Int, y_ = (([] : List Int)) := ⟨_, rfl⟩; replace H : (some y435) = some r := Yy hy435 H; have Ny435 := Aside0.mk hy435; clear hy435; obtain rfl := Option.some.inj H; have hcz19 := Yb5 BK428.out
     go_wp2_with (first | ((with_reducible refine gate_dst (N := 105) rfl ?_); refine Kd.R_lit (Kd.int .u32) _ 44 (by rfl) (N := 105) (by rfl) (xs := ([] : List Int)) (inner := []) (ok := fun _ => True) (okp := fun _ => True) Z4 (Reps.none _ _) (fun _ hk => hk) trivial (Below.refl _ _) (Nat.le_refl _) (by simp) ?_; intro v436 w20 ho21 hb hg_ hnew_; clear hg_ hnew_; (first | rw [← Ny435.out] at ho21 | (simp only [Int.reduceToNat] at ho21; rw [← Ny435.out] at ho21)); have HO437 := Z (Kd.R_lower ho21 (below_size Z90)); replace BK428 := Z (Yk6 BK428 hb); replace HB := Z (below_step Z90 hb); clear hb ho21))
     go_ret
     exact ⟨_, Z91, (Z6 HO437), Z90⟩
    obtain ⟨c10b0, c10b1⟩ := Yn c10; obtain ⟨y438, hy438⟩ : ∃ y_ : List Int, y_ = (([] : List Int)) := ⟨_, rfl⟩; replace H : (some y438) = some r := Yy hy438 H; have Ny438 := Aside0.mk hy438; clear hy438; obtain rfl := Option.some.inj H; have hcz22 := Yb5 BK428.out
    go_wp2_with (first | ((with_reducible refine gate_dst (N := 105) rfl ?_); refine Kd.R_lit (Kd.int .u32) _ 44 (by rfl) (N := 105) (by rfl) (xs := ([] : List Int)) (inner := []) (ok := fun _ => True) (okp := fun _ => True) Z4 (Reps.none _ _) (fun _ hk => hk) trivial (Below.refl _ _) (Nat.le_refl _) (by simp) ?_; intro v439 w23 ho24 hb hg_ hnew_; clear hg_ hnew_; (first | rw [← Ny438.out] at ho24 | (simp only [Int.reduceToNat] at ho24; rw [← Ny438.out] at ho24)); have HO440 := Z (Kd.R_lower ho24 (below_size Z90)); replace BK428 := Z (Yk6 BK428 hb); replace HB := Z (below_step Z90 hb); clear hb ho24))
    go_ret
    exact ⟨_, Z91, (Z6 HO440), Z90⟩
   obtain ⟨c9b0, c9b1⟩ := Yn c9; replace H := Yi H; rcases H with ⟨c25, H⟩ | ⟨c25, H⟩
   ·obtain ⟨c25b0, c25b1⟩ := Ye c25; clear c25; replace H := Yi H; rcases H with ⟨c26, H⟩ | ⟨c26, H⟩
    ·obtain ⟨c26b0, c26b1⟩ := Ye c26; clear c26; replace H := Yi H; rcases H with ⟨c27, H⟩ | ⟨c27, H⟩
     ·obtain ⟨c27b0, c27b1⟩ := Ye c27; clear c27; replace H := Yd H; obtain ⟨t441, A28, H⟩ := H; (try dsimp only at H); obtain rfl := Option.some.inj H; have hcz29 := Yb5 BK428.out
      go_wp2_with (first | ((with_reducible refine gate_callee (f := 65) rfl ?_); refine goesL_ (some 65) rfl rfl Tryz.func65 Z0 rfl #[.int .i32 a0_2, .bool a0_3, .int .u32 8, .int .u32 2] rfl Z8 ?_; (with_reducible refine (spec_l04Num.calls a0_2 a0_3 8 2 t441 _ A28.out).mono ?_); rintro e w30 ⟨v442, rfl, ho0, hb⟩; refine ⟨_, rfl, ?_⟩; have HO443 := Z (Kd.R_lower ho0 (below_size Z90)); replace BK428 := Z (Yk6 BK428 hb); replace HB := Z (below_step Z90 hb); (try clear hb); (try clear hb2); (try clear hk); (try clear hi); (try clear ho0)))
      go_ret
      exact ⟨_, Z91, (Z6 HO443), Z90⟩
     obtain ⟨c27b0, c27b1⟩ := Yn c27; obtain ⟨y444, hy444⟩ : ∃ y_ : List Int, y_ = (([] : List Int)) := ⟨_, rfl⟩; replace H : (some y444) = some r := Yy hy444 H; have Ny444 := Aside0.mk hy444; clear hy444; obtain rfl := Option.some.inj H; have hcz31 := Yb5 BK428.out
     go_wp2_with (first | ((with_reducible refine gate_dst (N := 105) rfl ?_); refine Kd.R_lit (Kd.int .u32) _ 44 (by rfl) (N := 105) (by rfl) (xs := ([] : List Int)) (inner := []) (ok := fun _ => True) (okp := fun _ => True) Z4 (Reps.none _ _) (fun _ hk => hk) trivial (Below.refl _ _) (Nat.le_refl _) (by simp) ?_; intro v445 w32 ho33 hb hg_ hnew_; clear hg_ hnew_; (first | rw [← Ny444.out] at ho33 | (simp only [Int.reduceToNat] at ho33; rw [← Ny444.out] at ho33)); have HO446 := Z (Kd.R_lower ho33 (below_size Z90)); replace BK428 := Z (Yk6 BK428 hb); replace HB := Z (below_step Z90 hb); clear hb ho33))
     go_ret
     exact ⟨_, Z91, (Z6 HO446), Z90⟩
    obtain ⟨c26b0, c26b1⟩ := Yn c26; obtain ⟨y447, hy447⟩ : ∃ y_ : List Int, y_ = (([] : List Int)) := ⟨_, rfl⟩; replace H : (some y447) = some r := Yy hy447 H; have Ny447 := Aside0.mk hy447; clear hy447; obtain rfl := Option.some.inj H; have hcz34 := Yb5 BK428.out
    go_wp2_with (first | ((with_reducible refine gate_dst (N := 105) rfl ?_); refine Kd.R_lit (Kd.int .u32) _ 44 (by rfl) (N := 105) (by rfl) (xs := ([] : List Int)) (inner := []) (ok := fun _ => True) (okp := fun _ => True) Z4 (Reps.none _ _) (fun _ hk => hk) trivial (Below.refl _ _) (Nat.le_refl _) (by simp) ?_; intro v448 w35 ho36 hb hg_ hnew_; clear hg_ hnew_; (first | rw [← Ny447.out] at ho36 | (simp only [Int.reduceToNat] at ho36; rw [← Ny447.out] at ho36)); have HO449 := Z (Kd.R_lower ho36 (below_size Z90)); replace BK428 := Z (Yk6 BK428 hb); replace HB := Z (below_step Z90 hb); clear hb ho36))
    go_ret
    exact ⟨_, Z91, (Z6 HO449), Z90⟩
   obtain ⟨c25b0, c25b1⟩ := Yn c25; replace H := Yi H; rcases H with ⟨c37, H⟩ | ⟨c37, H⟩
   ·obtain ⟨c37b0, c37b1⟩ := Ye c37; clear c37; replace H := Yi H; rcases H with ⟨c38, H⟩ | ⟨c38, H⟩
    ·obtain ⟨c38b0, c38b1⟩ := Ye c38; clear c38; replace H := Yi H; rcases H with ⟨c39, H⟩ | ⟨c39, H⟩
     ·obtain ⟨c39b0, c39b1⟩ := Ye c39; clear c39; replace H := Yd H; obtain ⟨t450, A40, H⟩ := H; (try dsimp only at H); obtain rfl := Option.some.inj H; have hcz41 := Yb5 BK428.out
      go_wp2_with (first | ((with_reducible refine gate_callee (f := 65) rfl ?_); refine goesL_ (some 80) rfl rfl Tryz.func65 Z0 rfl #[.int .i32 a0_2, .bool a0_3, .int .u32 6, .int .u32 5] rfl Z8 ?_; (with_reducible refine (spec_l04Num.calls a0_2 a0_3 6 5 t450 _ A40.out).mono ?_); rintro e w42 ⟨v451, rfl, ho0, hb⟩; refine ⟨_, rfl, ?_⟩; have HO452 := Z (Kd.R_lower ho0 (below_size Z90)); replace BK428 := Z (Yk6 BK428 hb); replace HB := Z (below_step Z90 hb); (try clear hb); (try clear hb2); (try clear hk); (try clear hi); (try clear ho0)))
      go_ret
      exact ⟨_, Z91, (Z6 HO452), Z90⟩
     obtain ⟨c39b0, c39b1⟩ := Yn c39; obtain ⟨y453, hy453⟩ : ∃ y_ : List Int, y_ = (([] : List Int)) := ⟨_, rfl⟩; replace H : (some y453) = some r := Yy hy453 H; have Ny453 := Aside0.mk hy453; clear hy453; obtain rfl := Option.some.inj H; have hcz43 := Yb5 BK428.out
     go_wp2_with (first | ((with_reducible refine gate_dst (N := 105) rfl ?_); refine Kd.R_lit (Kd.int .u32) _ 44 (by rfl) (N := 105) (by rfl) (xs := ([] : List Int)) (inner := []) (ok := fun _ => True) (okp := fun _ => True) Z4 (Reps.none _ _) (fun _ hk => hk) trivial (Below.refl _ _) (Nat.le_refl _) (by simp) ?_; intro v454 w44 ho45 hb hg_ hnew_; clear hg_ hnew_; (first | rw [← Ny453.out] at ho45 | (simp only [Int.reduceToNat] at ho45; rw [← Ny453.out] at ho45)); have HO455 := Z (Kd.R_lower ho45 (below_size Z90)); replace BK428 := Z (Yk6 BK428 hb); replace HB := Z (below_step Z90 hb); clear hb ho45))
     go_ret
     exact ⟨_, Z91, (Z6 HO455), Z90⟩
    obtain ⟨c38b0, c38b1⟩ := Yn c38; obtain ⟨y456, hy456⟩ : ∃ y_ : List Int, y_ = (([] : List Int)) := ⟨_, rfl⟩; replace H : (some y456) = some r := Yy hy456 H; have Ny456 := Aside0.mk hy456; clear hy456; obtain rfl := Option.some.inj H; have hcz46 := Yb5 BK428.out
    go_wp2_with (first | ((with_reducible refine gate_dst (N := 105) rfl ?_); refine Kd.R_lit (Kd.int .u32) _ 44 (by rfl) (N := 105) (by rfl) (xs := ([] : List Int)) (inner := []) (ok := fun _ => True) (okp := fun _ => True) Z4 (Reps.none _ _) (fun _ hk => hk) trivial (Below.refl _ _) (Nat.le_refl _) (by simp) ?_; intro v457 w47 ho48 hb hg_ hnew_; clear hg_ hnew_; (first | rw [← Ny456.out] at ho48 | (simp only [Int.reduceToNat] at ho48; rw [← Ny456.out] at ho48)); have HO458 := Z (Kd.R_lower ho48 (below_size Z90)); replace BK428 := Z (Yk6 BK428 hb); replace HB := Z (below_step Z90 hb); clear hb ho48))
    go_ret
    exact ⟨_, Z91, (Z6 HO458), Z90⟩
   obtain ⟨c37b0, c37b1⟩ := Yn c37; replace H := Yi H; rcases H with ⟨c49, H⟩ | ⟨c49, H⟩
   ·obtain ⟨c49b0, c49b1⟩ := Ye c49; clear c49; replace H := Yd H; obtain ⟨t459, A50, H⟩ := H; (try dsimp only at H); replace H := Yi H; rcases H with ⟨c51, H⟩ | ⟨c51, H⟩
    ·obtain ⟨c51b0, c51b1⟩ := Ye c51; clear c51; by_cases c52 : a0_3 = true
     ·subst c52; replace H := Yt H; obtain ⟨y462, hy462⟩ : ∃ y_ : List Int, y_ = (([] : List Int)) := ⟨_, rfl⟩; replace H : (some y462) = some r := Yy hy462 H; have Ny462 := Aside0.mk hy462; clear hy462; obtain rfl := Option.some.inj H; have hcz53 := Yb5 BK428.out
      go_wp2_with (first | ((with_reducible refine gate_callee (f := 66) rfl ?_); refine goesL_ (some 85) rfl rfl Tryz.func66 Z0 rfl #[.int .u32 12, .string a0_1] rfl Z8 ?_; (with_reducible refine (spec_l04Word.calls kj1 12 a0_1 t459 _ A50.out).mono ?_); rintro e w54 ⟨v460, rfl, ho0, hb⟩; refine ⟨_, rfl, ?_⟩; have HO461 := Z (Kd.R_lower ho0 (below_size Z90)); replace BK428 := Z (Yk6 BK428 hb); replace HB := Z (below_step Z90 hb); (try clear hb); (try clear hb2); (try clear hk); (try clear hi); (try clear ho0); obtain ⟨Ao55, co55, eo55⟩ := Kd.R_slice HO461.out; subst eo55; have hcz56 := Yb5 BK428.out) | ((with_reducible refine gate_dst (N := 105) rfl ?_); refine Kd.R_lit (Kd.int .u32) _ 44 (by rfl) (N := 105) (by rfl) (xs := ([] : List Int)) (inner := []) (ok := fun _ => True) (okp := fun _ => True) Z4 (Reps.none _ _) (fun _ hk => hk) trivial (Below.refl _ _) (Nat.le_refl _) (by simp) ?_; intro v463 w57 ho58 hb hg_ hnew_; clear hg_ hnew_; (first | rw [← Ny462.out] at ho58 | (simp only [Int.reduceToNat] at ho58; rw [← Ny462.out] at ho58)); have HO464 := Z (Kd.R_lower (Kd.R_new' ho58 (Kd.R_lt (Z6 HO461))) (below_size Z90)); replace HO461 := Z (Kd.R_elder' (Z6 HO461) (Kd.R_base ho58) hb); replace BK428 := Z (Yk6 BK428 hb); replace HB := Z (below_step Z90 hb); clear hb ho58))
      go_ret
      exact ⟨_, Z91, (Z17 HO464), Z90⟩
     replace c52 := Bool.eq_false_iff.mpr c52; subst c52; replace H := Yf H; replace H := Yi H; rcases H with ⟨c59, H⟩ | ⟨c59, H⟩
     ·obtain ⟨c59b0, c59b1⟩ := Ye c59; clear c59; replace H := Yg H; obtain ⟨c60, H⟩ := H; have LMc60 := Aside0.mk c60; clear c60; obtain ⟨y465, hy465⟩ : ∃ y_ : List Int, y_ = (t459 ++ [(a0_2) % 4294967296]) := ⟨_, rfl⟩; replace H : (some y465) = some r := Yy hy465 H; have Ny465 := Aside0.mk hy465; clear hy465; obtain rfl := Option.some.inj H; have hcz61 := Yb5 BK428.out
      go_wp2_with (first | ((with_reducible refine gate_callee (f := 66) rfl ?_); refine goesL_ (some 85) rfl rfl Tryz.func66 Z0 rfl #[.int .u32 12, .string a0_1] rfl Z8 ?_; (with_reducible refine (spec_l04Word.calls kj1 12 a0_1 t459 _ A50.out).mono ?_); rintro e w62 ⟨v460, rfl, ho0, hb⟩; refine ⟨_, rfl, ?_⟩; have HO461 := Z (Kd.R_lower ho0 (below_size Z90)); replace BK428 := Z (Yk6 BK428 hb); replace HB := Z (below_step Z90 hb); (try clear hb); (try clear hb2); (try clear hk); (try clear hi); (try clear ho0); obtain ⟨Ao63, co63, eo63⟩ := Kd.R_slice HO461.out; subst eo63; have hcz64 := Yb5 BK428.out) | ((with_reducible refine gate_builtin (b := .append) (xs := #[.tmp 99, .tmp 103]) rfl ?_); at_builtin; refine Kd.R_append (Kd.int .u32) (w0 := w) w.heap.size rfl (.tmp 99) (.tmp 103) 24 44 (.int .u32 0) 4 rfl Tryz.underlying24 info44 rfl (by decide) (by omega) (.slice Ao63 t459.length co63) t459 ((a0_2) % 4294967296) [.int .u32 ((a0_2) % 4294967296)] (fun _ => True) (fun _ => False) rfl rfl ?aP (fun _ hk => hk.elim) ?aF ?aO ?aB ?aS ?aL ?_; (case aP => exact rfl); (case aB => exact Z90); (case aF => exact (fun _ _ => trivial)); (case aO => exact (Z6 HO461)); (case aS => exact (below_size Z90)); (case aL => have := LMc60.out; omega); intro v466 w65 ho hb hg hat; rw [← Ny465.out] at ho; replace BK428 := Z (blk_grown (g := gb428) (o := .cells #[.int .i64 a0_0, .string a0_1, .int .i32 a0_2, .bool false, .int .u32 a0_4] 46 (0, 0)) (Z15 BK428) hg (Kd.R_ne HO461.out BK428.out (by decide))); replace HB := Z (hb); have HO467 := Z (ho); clear HO461; clear ho hb hg hat))
      go_ret
      exact ⟨_, Z91, (Z6 HO467), Z90⟩
     obtain ⟨c59b0, c59b1⟩ := Yn c59; obtain ⟨y468, hy468⟩ : ∃ y_ : List Int, y_ = (([] : List Int)) := ⟨_, rfl⟩; replace H : (some y468) = some r := Yy hy468 H; have Ny468 := Aside0.mk hy468; clear hy468; obtain rfl := Option.some.inj H; have hcz66 := Yb5 BK428.out
     go_wp2_with (first | ((with_reducible refine gate_callee (f := 66) rfl ?_); refine goesL_ (some 85) rfl rfl Tryz.func66 Z0 rfl #[.int .u32 12, .string a0_1] rfl Z8 ?_; (with_reducible refine (spec_l04Word.calls kj1 12 a0_1 t459 _ A50.out).mono ?_); rintro e w67 ⟨v460, rfl, ho0, hb⟩; refine ⟨_, rfl, ?_⟩; have HO461 := Z (Kd.R_lower ho0 (below_size Z90)); replace BK428 := Z (Yk6 BK428 hb); replace HB := Z (below_step Z90 hb); (try clear hb); (try clear hb2); (try clear hk); (try clear hi); (try clear ho0); obtain ⟨Ao68, co68, eo68⟩ := Kd.R_slice HO461.out; subst eo68; have hcz69 := Yb5 BK428.out) | ((with_reducible refine gate_dst (N := 105) rfl ?_); refine Kd.R_lit (Kd.int .u32) _ 44 (by rfl) (N := 105) (by rfl) (xs := ([] : List Int)) (inner := []) (ok := fun _ => True) (okp := fun _ => True) Z4 (Reps.none _ _) (fun _ hk => hk) trivial (Below.refl _ _) (Nat.le_refl _) (by simp) ?_; intro v469 w70 ho71 hb hg_ hnew_; clear hg_ hnew_; (first | rw [← Ny468.out] at ho71 | (simp only [Int.reduceToNat] at ho71; rw [← Ny468.out] at ho71)); have HO470 := Z (Kd.R_lower (Kd.R_new' ho71 (Kd.R_lt (Z6 HO461))) (below_size Z90)); replace HO461 := Z (Kd.R_elder' (Z6 HO461) (Kd.R_base ho71) hb); replace BK428 := Z (Yk6 BK428 hb); replace HB := Z (below_step Z90 hb); clear hb ho71))
     go_ret
     exact ⟨_, Z91, (Z17 HO470), Z90⟩
    obtain ⟨c51b0, c51b1⟩ := Yn c51; obtain ⟨y471, hy471⟩ : ∃ y_ : List Int, y_ = (([] : List Int)) := ⟨_, rfl⟩; replace H : (some y471) = some r := Yy hy471 H; have Ny471 := Aside0.mk hy471; clear hy471; obtain rfl := Option.some.inj H; have hcz72 := Yb5 BK428.out
    go_wp2_with (first | ((with_reducible refine gate_callee (f := 66) rfl ?_); refine goesL_ (some 85) rfl rfl Tryz.func66 Z0 rfl #[.int .u32 12, .string a0_1] rfl Z8 ?_; (with_reducible refine (spec_l04Word.calls kj1 12 a0_1 t459 _ A50.out).mono ?_); rintro e w73 ⟨v460, rfl, ho0, hb⟩; refine ⟨_, rfl, ?_⟩; have HO461 := Z (Kd.R_lower ho0 (below_size Z90)); replace BK428 := Z (Yk6 BK428 hb); replace HB := Z (below_step Z90 hb); (try clear hb); (try clear hb2); (try clear hk); (try clear hi); (try clear ho0); obtain ⟨Ao74, co74, eo74⟩ := Kd.R_slice HO461.out; subst eo74) | ((with_reducible refine gate_dst (N := 105) rfl ?_); refine Kd.R_lit (Kd.int .u32) _ 44 (by rfl) (N := 105) (by rfl) (xs := ([] : List Int)) (inner := []) (ok := fun _ => True) (okp := fun _ => True) Z4 (Reps.none _ _) (fun _ hk => hk) trivial (Below.refl _ _) (Nat.le_refl _) (by simp) ?_; intro v472 w75 ho76 hb hg_ hnew_; clear hg_ hnew_; (first | rw [← Ny471.out] at ho76 | (simp only [Int.reduceToNat] at ho76; rw [← Ny471.out] at ho76)); have HO473 := Z (Kd.R_lower (Kd.R_new' ho76 (Kd.R_lt (Z6 HO461))) (below_size Z90)); replace HO461 := Z (Kd.R_elder' (Z6 HO461) (Kd.R_base ho76) hb); replace BK428 := Z (Yk6 BK428 hb); replace HB := Z (below_step Z90 hb); clear hb ho76))
    go_ret
    exact ⟨_, Z91, (Z17 HO473), Z90⟩
   obtain ⟨c49b0, c49b1⟩ := Yn c49; replace H := Yd H; obtain ⟨t474, A77, H⟩ := H; (try dsimp only at H); replace H := Yi H; rcases H with ⟨c78, H⟩ | ⟨c78, H⟩
   ·have c78b0 : decide (0 < t474) = true := decide_eq_true c78; clear c78; by_cases c79 : x3_1 = true
    ·subst c79; replace H := Yt H; replace H := Yd H; obtain ⟨t475, A80, H⟩ := H; (try dsimp only at H); obtain rfl := Option.some.inj H; have hcz81 := Yb5 BK428.out
     go_wp2_with (first | ((with_reducible refine gate_callee (f := 67) rfl ?_); refine goesL_ (some 23) rfl rfl Tryz.func67 Z0 rfl #[.int .i64 a0_0] rfl Z8 ?_; (with_reducible refine (spec_l04Tag.calls a0_0 t474 _ A77.out).mono ?_); rintro e w' ⟨rfl, ⟨nd, rfl⟩⟩; refine ⟨_, rfl, ?_⟩) | ((with_reducible refine gate_callee (f := 66) rfl ?_); refine goesL_ (some 32) rfl rfl Tryz.func66 Z0 rfl #[.int .u32 t474, .string a0_1] rfl Z8 ?_; (with_reducible refine (spec_l04Word.calls kj1 t474 a0_1 t475 _ A80.out).mono ?_); rintro e w82 ⟨v476, rfl, ho0, hb⟩; refine ⟨_, rfl, ?_⟩; have HO477 := Z (Kd.R_lower ho0 (below_size Z90)); replace BK428 := Z (Yk6 BK428 hb); replace HB := Z (below_step Z90 hb); (try clear hb); (try clear hb2); (try clear hk); (try clear hi); (try clear ho0)))
     go_ret
     exact ⟨_, Z91, (Z6 HO477), Z90⟩
    replace c79 := Bool.eq_false_iff.mpr c79; subst c79; replace H := Yf H; obtain ⟨y478, hy478⟩ : ∃ y_ : List Int, y_ = (([] : List Int)) := ⟨_, rfl⟩; replace H : (some y478) = some r := Yy hy478 H; have Ny478 := Aside0.mk hy478; clear hy478; obtain rfl := Option.some.inj H; have hcz83 := Yb5 BK428.out
    go_wp2_with (first | ((with_reducible refine gate_callee (f := 67) rfl ?_); refine goesL_ (some 23) rfl rfl Tryz.func67 Z0 rfl #[.int .i64 a0_0] rfl Z8 ?_; (with_reducible refine (spec_l04Tag.calls a0_0 t474 _ A77.out).mono ?_); rintro e w' ⟨rfl, ⟨nd, rfl⟩⟩; refine ⟨_, rfl, ?_⟩) | ((with_reducible refine gate_dst (N := 105) rfl ?_); refine Kd.R_lit (Kd.int .u32) _ 44 (by rfl) (N := 105) (by rfl) (xs := ([] : List Int)) (inner := []) (ok := fun _ => True) (okp := fun _ => True) Z4 (Reps.none _ _) (fun _ hk => hk) trivial (Below.refl _ _) (Nat.le_refl _) (by simp) ?_; intro v479 w84 ho85 hb hg_ hnew_; clear hg_ hnew_; (first | rw [← Ny478.out] at ho85 | (simp only [Int.reduceToNat] at ho85; rw [← Ny478.out] at ho85)); have HO480 := Z (Kd.R_lower ho85 (below_size Z90)); replace BK428 := Z (Yk6 BK428 hb); replace HB := Z (below_step Z90 hb); clear hb ho85))
    go_ret
    exact ⟨_, Z91, (Z6 HO480), Z90⟩
   have c78b0 : decide (0 < t474) = false := decide_eq_false c78; clear c78; obtain ⟨y481, hy481⟩ : ∃ y_ : List Int, y_ = (([] : List Int)) := ⟨_, rfl⟩; replace H : (some y481) = some r := Yy hy481 H; have Ny481 := Aside0.mk hy481; clear hy481; obtain rfl := Option.some.inj H; have hcz86 := Yb5 BK428.out
   go_wp2_with (first | ((with_reducible refine gate_callee (f := 67) rfl ?_); refine goesL_ (some 23) rfl rfl Tryz.func67 Z0 rfl #[.int .i64 a0_0] rfl Z8 ?_; (with_reducible refine (spec_l04Tag.calls a0_0 t474 _ A77.out).mono ?_); rintro e w' ⟨rfl, ⟨nd, rfl⟩⟩; refine ⟨_, rfl, ?_⟩) | ((with_reducible refine gate_dst (N := 105) rfl ?_); refine Kd.R_lit (Kd.int .u32) _ 44 (by rfl) (N := 105) (by rfl) (xs := ([] : List Int)) (inner := []) (ok := fun _ => True) (okp := fun _ => True) Z4 (Reps.none _ _) (fun _ hk => hk) trivial (Below.refl _ _) (Nat.le_refl _) (by simp) ?_; intro v482 w87 ho88 hb hg_ hnew_; clear hg_ hnew_; (first | rw [← Ny481.out] at ho88 | (simp only [Int.reduceToNat] at ho88; rw [← Ny481.out] at ho88)); have HO483 := Z (Kd.R_lower ho88 (below_size Z90)); replace BK428 := Z (Yk6 BK428 hb); replace HB := Z (below_step Z90 hb); clear hb ho88))
   go_ret
   exact ⟨_, Z91, (Z6 HO483), Z90⟩

def spec_ItemOk.f (k : Nat) (a0_0 : Int) (a0_1 : ByteArray) (a0_2 : Int) (a0_3 : Bool) (a0_4 : Int) : Option (Bool) := (spec_CellsOf.f k a0_0 a0_1 a0_2 a0_3 a0_4).bind fun t485 => (some (decide ((t485.length : Int) > 0)))
theorem spec_ItemOk.calls (k : Nat) (a0_0 : Int) (a0_1 : ByteArray) (a0_2 : Int) (a0_3 : Bool) (a0_4 : Int) (r : Bool) (w : World) (h : spec_ItemOk.f k a0_0 a0_1 a0_2 a0_3 a0_4 = some r) :
  Calls Tryz.prog 57 #[.agg #[.int .i64 a0_0, .string a0_1, .int .i32 a0_2, .bool a0_3, .int .u32 a0_4]] w fun e w' => e = .returned (.bool r) ∧ Below w.heap.size w w' := by
 have hu46 := Tryz.underlying46; have HB := Z (Below.refl w.heap.size w); unfold spec_ItemOk.f at h; have H := h; clear h; replace H := Yd H; obtain ⟨t485, A2, H⟩ := H; (try dsimp only at H); obtain rfl := Option.some.inj H; go_enter Tryz.func57, Tryz.ntmps57
 go_wp2_with (first | ((with_reducible refine gate_dst (N := 1) rfl ?_); refine box_event (by rfl) (N := 1) (by rfl) (cs := #[.int .i64 a0_0, .string a0_1, .int .i32 a0_2, .bool a0_3, .int .u32 a0_4]) (t := 46) Z4 ?_; intro gb484 hg w3 hbox hb; have BK484 := Z (hbox); have GW484 := Z ((Z124 : w.heap.size ≤ gb484)); have GE484 := Z ((Z124 : w.heap.size ≤ gb484)); replace HB := Z (below_step Z90 hb); clear hb hbox hg; have hcz4 := Yb5 BK484.out) | ((with_reducible refine gate_callee (f := 37) rfl ?_); refine goesL_ (some 4) rfl rfl Tryz.func37 Z0 rfl #[.agg #[.int .i64 a0_0, .string a0_1, .int .i32 a0_2, .bool a0_3, .int .u32 a0_4]] rfl Z8 ?_; (with_reducible refine (spec_CellsOf.calls k a0_0 a0_1 a0_2 a0_3 a0_4 t485 _ A2.out).mono ?_); rintro e w5 ⟨v486, rfl, ho0, hb⟩; refine ⟨_, rfl, ?_⟩; have HO487 := Z (Kd.R_lower ho0 (below_size Z90)); replace BK484 := Z (Yk6 BK484 hb); replace HB := Z (below_step Z90 hb); (try clear hb); (try clear hb2); (try clear hk); (try clear hi); (try clear ho0); obtain ⟨Ao6, co6, eo6⟩ := Kd.R_slice HO487.out; subst eo6))
 go_ret
 exact ⟨Z91, Z90⟩

mutual
def spec_l06Mark.j0 : Nat → Int → Bool → Option (ByteArray)
 | 0, _, _ => none
 | k + 1, x3, x4 => if x4 = true then (some (⟨#[126]⟩ : ByteArray)) else (if x3 = 2 then (some (⟨#[58]⟩ : ByteArray)) else (if x3 = 3 then (spec_l06Mark.j1 k x3 (x3 == 3)) else (spec_l06Mark.j1 k x3 (x3 == 8))))
def spec_l06Mark.j1 : Nat → Int → Bool → Option (ByteArray)
 | 0, _, _ => none
 | k + 1, x3, x9 => if x9 = true then (some (⟨#[61]⟩ : ByteArray)) else (if x3 = 4 then (some (⟨#[34]⟩ : ByteArray)) else (if x3 = 5 then (some (⟨#[94]⟩ : ByteArray)) else (if x3 = 6 then (some (⟨#[95]⟩ : ByteArray)) else (if x3 = 9 then (some (⟨#[38]⟩ : ByteArray)) else (some (⟨#[37]⟩ : ByteArray))))))
end
def spec_l06Mark.f (k : Nat) (a0 : Int) : Option (ByteArray) := if a0 = 1 then (spec_l06Mark.j0 k a0 (a0 == 1)) else (spec_l06Mark.j0 k a0 (a0 == 7))
theorem spec_l06Mark.calls (k : Nat) (a0 : Int) (r : ByteArray) (w : World) (h : spec_l06Mark.f k a0 = some r) :
  Calls Tryz.prog 58 #[.int .i64 a0] w fun e w' => e = .returned (.string r) ∧ Drawn0 w w' := by
 unfold spec_l06Mark.f at h; have H := h; clear h; have HC2 := Aside0.mk H; clear H; go_enter Tryz.func58, Tryz.ntmps58
 go_upto_if 4 with (fail)
 go_cut [4] (fun v4 wc => ∃ (kq : Nat) (x4_1 : Bool), v4 = .bool x4_1 ∧ Aside0 (spec_l06Mark.j0 kq a0 x4_1 = some r) ∧ Aside0 (kq ≤ k) ∧ Drawn0 w wc)
 case first =>
  have H := HC2.out; clear HC2; replace H := Yi H; rcases H with ⟨c3, H⟩ | ⟨c3, H⟩
  ·obtain ⟨c3b0, c3b1⟩ := Ye c3; clear c3
   (first | rw [c3b0] | (simp only [i64_w, i32_w]; rw [c3b0]) | skip)
   have H' := Aside0.mk H; clear H
   go_wp2
   go_meet
   case rel => exact ⟨_, ((a0 == 1)), Z2, H', ⟨Z14⟩, Z3⟩
  obtain ⟨c3b0, c3b1⟩ := Yn c3
  (first | rw [c3b0] | (simp only [i64_w, i32_w]; rw [c3b0]) | skip)
  have H' := Aside0.mk H; clear H
  go_wp2
  go_meet
  case rel => exact ⟨_, ((a0 == 7)), Z2, H', ⟨Z14⟩, Z3⟩
 case rest =>
  clear HC2; (try clear p2); (try clear c3); (try clear c3b0); (try clear c3b1); obtain ⟨kq, x4_1, rfl, HA, HJ1, ⟨mc1, rfl⟩⟩ := hcut
  cases kq with
  | zero => exact absurd HA.out (by simp [spec_l06Mark.j0])
  | succ kj1 =>
   have H := HA.out; clear HA; simp only [spec_l06Mark.j0] at H; by_cases c4 : x4_1 = true
   ·subst c4; replace H := Yt H; obtain rfl := Option.some.inj H
    go_wp2
    go_ret
    exact ⟨Z2, Z3⟩
   replace c4 := Bool.eq_false_iff.mpr c4; subst c4; replace H := Yf H; replace H := Yi H; rcases H with ⟨c5, H⟩ | ⟨c5, H⟩
   ·obtain ⟨c5b0, c5b1⟩ := Ye c5; clear c5; obtain rfl := Option.some.inj H
    go_wp2
    go_ret
    exact ⟨Z2, Z3⟩
   obtain ⟨c5b0, c5b1⟩ := Yn c5; have HC6 := Aside0.mk H; clear H
   go_upto_if 9 with (fail)
   go_cut [9] (fun v9 wc => ∃ (kq : Nat) (x9_5 : Bool), v9 = .bool x9_5 ∧ Aside0 (spec_l06Mark.j1 kq a0 x9_5 = some r) ∧ Aside0 (kq ≤ kj1) ∧ Drawn0 w wc)
   case first =>
    have H := HC6.out; clear HC6; replace H := Yi H; rcases H with ⟨c7, H⟩ | ⟨c7, H⟩
    ·obtain ⟨c7b0, c7b1⟩ := Ye c7; clear c7
     (first | rw [c7b0] | (simp only [i64_w, i32_w]; rw [c7b0]) | skip)
     have H' := Aside0.mk H; clear H
     go_wp2
     go_meet
     case rel => exact ⟨_, ((a0 == 3)), Z2, H', ⟨by have := HJ1.out; first | omega | exact Nat.le_refl _⟩, Z3⟩
    obtain ⟨c7b0, c7b1⟩ := Yn c7
    (first | rw [c7b0] | (simp only [i64_w, i32_w]; rw [c7b0]) | skip)
    have H' := Aside0.mk H; clear H
    go_wp2
    go_meet
    case rel => exact ⟨_, ((a0 == 8)), Z2, H', ⟨by have := HJ1.out; first | omega | exact Nat.le_refl _⟩, Z3⟩
   case rest =>
    clear HC6; (try clear c1); (try clear p2); (try clear c3); (try clear c3b0); (try clear c3b1); (try clear c4); (try clear c5); (try clear c5b0); (try clear c5b1); (try clear c7); (try clear c7b0); (try clear c7b1); (try clear p2); obtain ⟨kq, x9_5, rfl, HA, HJ5, ⟨mc5, rfl⟩⟩ := hcut
    cases kq with
    | zero => exact absurd HA.out (by simp [spec_l06Mark.j1])
    | succ kj5 =>
     have H := HA.out; clear HA; simp only [spec_l06Mark.j1] at H; by_cases c8 : x9_5 = true
     ·subst c8; replace H := Yt H; obtain rfl := Option.some.inj H
      go_wp2
      go_ret
      exact ⟨Z2, Z3⟩
     replace c8 := Bool.eq_false_iff.mpr c8; subst c8; replace H := Yf H; replace H := Yi H; rcases H with ⟨c9, H⟩ | ⟨c9, H⟩
     ·obtain ⟨c9b0, c9b1⟩ := Ye c9; clear c9; obtain rfl := Option.some.inj H
      go_wp2
      go_ret
      exact ⟨Z2, Z3⟩
     obtain ⟨c9b0, c9b1⟩ := Yn c9; replace H := Yi H; rcases H with ⟨c10, H⟩ | ⟨c10, H⟩
     ·obtain ⟨c10b0, c10b1⟩ := Ye c10; clear c10; obtain rfl := Option.some.inj H
      go_wp2
      go_ret
      exact ⟨Z2, Z3⟩
     obtain ⟨c10b0, c10b1⟩ := Yn c10; replace H := Yi H; rcases H with ⟨c11, H⟩ | ⟨c11, H⟩
     ·obtain ⟨c11b0, c11b1⟩ := Ye c11; clear c11; obtain rfl := Option.some.inj H
      go_wp2
      go_ret
      exact ⟨Z2, Z3⟩
     obtain ⟨c11b0, c11b1⟩ := Yn c11; replace H := Yi H; rcases H with ⟨c12, H⟩ | ⟨c12, H⟩
     ·obtain ⟨c12b0, c12b1⟩ := Ye c12; clear c12; obtain rfl := Option.some.inj H
      go_wp2
      go_ret
      exact ⟨Z2, Z3⟩
     obtain ⟨c12b0, c12b1⟩ := Yn c12; obtain rfl := Option.some.inj H
     go_wp2
     go_ret
     exact ⟨Z2, Z3⟩

def spec_HexText.l0 : Nat → ByteArray → Int → Option (ByteArray)
 | 0, _, _ => none
 | k + 1, x3, x4 => if x4 > 0 then (if 0 ≤ (Int.tmod x4 16) then (if (Int.tmod x4 16) ≤ (wrap64 ((Int.tmod x4 16) + 1)) then (if (wrap64 ((Int.tmod x4 16) + 1)) ≤ 16 then (if ((⟨#[48, 49, 50, 51, 52, 53, 54, 55, 56, 57, 97, 98, 99, 100, 101, 102]⟩ : ByteArray).extract ((Int.tmod x4 16) : Int).toNat ((wrap64 ((Int.tmod x4 16) + 1)) : Int).toNat).size + x3.size ≤ 9223372036854775807 then (spec_HexText.l0 k (((⟨#[48, 49, 50, 51, 52, 53, 54, 55, 56, 57, 97, 98, 99, 100, 101, 102]⟩ : ByteArray).extract ((Int.tmod x4 16) : Int).toNat ((wrap64 ((Int.tmod x4 16) + 1)) : Int).toNat) ++ x3) (wrap64 (Int.tdiv x4 16))) else (none)) else (none)) else (none)) else (none)) else (some x3)
def spec_HexText.f (k : Nat) (a0 : Int) : Option (ByteArray) := if a0 = 0 then (some (⟨#[48]⟩ : ByteArray)) else (spec_HexText.l0 k (⟨#[]⟩ : ByteArray) (wrap64 (a0)))
theorem spec_HexText.calls (k : Nat) (a0 : Int) (r : ByteArray) (w : World) (h : spec_HexText.f k a0 = some r) :
  Calls Tryz.prog 59 #[.int .u32 a0] w fun e w' => e = .returned (.string r) ∧ Drawn0 w w' := by
 unfold spec_HexText.f at h; have H := h; clear h; replace H := Yi H; rcases H with ⟨c2, H⟩ | ⟨c2, H⟩
 ·obtain ⟨c2b0, c2b1⟩ := Ye c2; clear c2; obtain rfl := Option.some.inj H; go_enter Tryz.func59, Tryz.ntmps59
  go_wp2
  go_ret
  exact ⟨Z2, Z3⟩
 obtain ⟨c2b0, c2b1⟩ := Yn c2; have H' := Aside0.mk H; clear H; go_enter Tryz.func59, Tryz.ntmps59
 go_wp2
 go_loopg [3, 4] k (fun kq v3 v4 w' => ∃ (x3_1 : ByteArray) (x4_1 : Int), v3 = .string x3_1 ∧ v4 = .int .i64 x4_1 ∧ Aside0 (spec_HexText.l0 kq x3_1 x4_1 = some r) ∧ Aside0 (kq ≤ k) ∧ Drawn0 w w')
 case atStart => exact ⟨((⟨#[]⟩ : ByteArray)), (wrap64 (a0)), Z2, Z2, H', ⟨Nat.le_refl _⟩, Z3⟩
 case round =>
  clear H'; (try clear c2); (try clear c2b0); (try clear c2b1); (try clear p2); obtain ⟨x3_1, x4_1, rfl, rfl, HA, HK1, ⟨m1, rfl⟩⟩ := hrel
  cases gk with
  | zero => exact absurd HA.out (by simp [spec_HexText.l0])
  | succ k1 =>
   have H := HA.out; clear HA; simp only [spec_HexText.l0] at H; replace H := Yi H; rcases H with ⟨c3, H⟩ | ⟨c3, H⟩
   ·have c3b0 : decide (0 < x4_1) = true := decide_eq_true c3; clear c3; obtain ⟨ji4, hji4⟩ : ∃ j_ : Int, (Int.tmod x4_1 16) = j_ := ⟨_, rfl⟩; replace H : (if 0 ≤ (ji4) then (if (ji4) ≤ (wrap64 ((ji4) + 1)) then (if (wrap64 ((ji4) + 1)) ≤ 16 then (if ((⟨#[48, 49, 50, 51, 52, 53, 54, 55, 56, 57, 97, 98, 99, 100, 101, 102]⟩ : ByteArray).extract ((ji4) : Int).toNat ((wrap64 ((ji4) + 1)) : Int).toNat).size + x3_1.size ≤ 9223372036854775807 then (spec_HexText.l0 k1 (((⟨#[48, 49, 50, 51, 52, 53, 54, 55, 56, 57, 97, 98, 99, 100, 101, 102]⟩ : ByteArray).extract ((ji4) : Int).toNat ((wrap64 ((ji4) + 1)) : Int).toNat) ++ x3_1) (wrap64 (Int.tdiv x4_1 16))) else (none)) else (none)) else (none)) else (none)) = some r := by first | (rw [hji4] at H; exact H) | (simp only [hji4] at H ⊢; exact H)
    replace H := Yg H; obtain ⟨c5, H⟩ := H; have c5b0 := eq_true c5; have c5b1 := decide_eq_true c5; clear c5; replace H := Yg H; obtain ⟨c6, H⟩ := H; have c6b0 := eq_true c6; have c6b1 := decide_eq_true c6; replace H := Yg H; obtain ⟨c7, H⟩ := H; have c7b0 := eq_true c7; have c7b1 := decide_eq_true c7; replace H := Yg H; obtain ⟨c8, H⟩ := H; have c8b0 := eq_true c8; have c8b1 := decide_eq_true c8
    try have c8b2 : (9223372036854775807 < ((⟨#[48, 49, 50, 51, 52, 53, 54, 55, 56, 57, 97, 98, 99, 100, 101, 102]⟩ : ByteArray).extract ((ji4) : Int).toNat ((wrap64 ((ji4) + 1)) : Int).toNat).size + x3_1.size) = False := eq_false (Nat.not_lt.2 c8)
    have H' := Aside0.mk H; clear H
    go_wp2
    go_roundg k1
    case measure => have := HK1.out; omega
    case rel => exact ⟨(((⟨#[48, 49, 50, 51, 52, 53, 54, 55, 56, 57, 97, 98, 99, 100, 101, 102]⟩ : ByteArray).extract ((ji4) : Int).toNat ((wrap64 ((ji4) + 1)) : Int).toNat) ++ x3_1), (wrap64 (Int.tdiv x4_1 16)), (by first | rfl | (simp; done) | (simp only [← hji4] <;> (first | rfl | simp)) | (simp [*]; done)), Z2, H', ⟨Z9⟩, Z3⟩
   have c3b0 : decide (0 < x4_1) = false := decide_eq_false c3; clear c3; obtain rfl := Option.some.inj H
   go_wp2
   go_ret
   exact ⟨Z2, Z3⟩

def spec_DecText.l0 : Nat → Int → ByteArray → Int → Option (ByteArray)
 | 0, _, _, _ => none
 | k + 1, x0, x3, x4 => if x4 = 0 then (if x0 < 0 then (if 1 + x3.size ≤ 9223372036854775807 then (some ((⟨#[45]⟩ : ByteArray) ++ x3)) else (none)) else (some x3)) else (if (Int.tmod x4 10) < 0 then (if 0 ≤ (wrap64 (-(Int.tmod x4 10))) then (if (wrap64 (-(Int.tmod x4 10))) ≤ (wrap64 ((wrap64 (-(Int.tmod x4 10))) + 1)) then (if (wrap64 ((wrap64 (-(Int.tmod x4 10))) + 1)) ≤ 10 then (if ((⟨#[48, 49, 50, 51, 52, 53, 54, 55, 56, 57]⟩ : ByteArray).extract ((wrap64 (-(Int.tmod x4 10))) : Int).toNat ((wrap64 ((wrap64 (-(Int.tmod x4 10))) + 1)) : Int).toNat).size + x3.size ≤ 9223372036854775807 then (spec_DecText.l0 k x0 (((⟨#[48, 49, 50, 51, 52, 53, 54, 55, 56, 57]⟩ : ByteArray).extract ((wrap64 (-(Int.tmod x4 10))) : Int).toNat ((wrap64 ((wrap64 (-(Int.tmod x4 10))) + 1)) : Int).toNat) ++ x3) (wrap64 (Int.tdiv x4 10))) else (none)) else (none)) else (none)) else (none)) else (if 0 ≤ (Int.tmod x4 10) then (if (Int.tmod x4 10) ≤ (wrap64 ((Int.tmod x4 10) + 1)) then (if (wrap64 ((Int.tmod x4 10) + 1)) ≤ 10 then (if ((⟨#[48, 49, 50, 51, 52, 53, 54, 55, 56, 57]⟩ : ByteArray).extract ((Int.tmod x4 10) : Int).toNat ((wrap64 ((Int.tmod x4 10) + 1)) : Int).toNat).size + x3.size ≤ 9223372036854775807 then (spec_DecText.l0 k x0 (((⟨#[48, 49, 50, 51, 52, 53, 54, 55, 56, 57]⟩ : ByteArray).extract ((Int.tmod x4 10) : Int).toNat ((wrap64 ((Int.tmod x4 10) + 1)) : Int).toNat) ++ x3) (wrap64 (Int.tdiv x4 10))) else (none)) else (none)) else (none)) else (none)))
def spec_DecText.f (k : Nat) (a0 : Int) : Option (ByteArray) := if a0 = 0 then (some (⟨#[48]⟩ : ByteArray)) else (spec_DecText.l0 k a0 (⟨#[]⟩ : ByteArray) a0)
theorem spec_DecText.calls (k : Nat) (a0 : Int) (r : ByteArray) (w : World) (h : spec_DecText.f k a0 = some r) :
  Calls Tryz.prog 60 #[.int .i64 a0] w fun e w' => e = .returned (.string r) ∧ Drawn0 w w' := by
 unfold spec_DecText.f at h; have H := h; clear h; replace H := Yi H; rcases H with ⟨c2, H⟩ | ⟨c2, H⟩
 ·obtain ⟨c2b0, c2b1⟩ := Ye c2; clear c2; obtain rfl := Option.some.inj H; go_enter Tryz.func60, Tryz.ntmps60
  go_wp2
  go_ret
  exact ⟨Z2, Z3⟩
 obtain ⟨c2b0, c2b1⟩ := Yn c2; have H' := Aside0.mk H; clear H; go_enter Tryz.func60, Tryz.ntmps60
 go_wp2
 go_loopg [3, 4] k (fun kq v3 v4 w' => ∃ (x3_1 : ByteArray) (x4_1 : Int), v3 = .string x3_1 ∧ v4 = .int .i64 x4_1 ∧ Aside0 (spec_DecText.l0 kq a0 x3_1 x4_1 = some r) ∧ Aside0 (kq ≤ k) ∧ Drawn0 w w')
 case atStart => exact ⟨((⟨#[]⟩ : ByteArray)), (a0), Z2, Z2, H', ⟨Nat.le_refl _⟩, Z3⟩
 case round =>
  clear H'; (try clear c2); (try clear c2b0); (try clear c2b1); (try clear p2); obtain ⟨x3_1, x4_1, rfl, rfl, HA, HK1, ⟨m1, rfl⟩⟩ := hrel
  cases gk with
  | zero => exact absurd HA.out (by simp [spec_DecText.l0])
  | succ k1 =>
   have H := HA.out; clear HA; simp only [spec_DecText.l0] at H; replace H := Yi H; rcases H with ⟨c3, H⟩ | ⟨c3, H⟩
   ·obtain ⟨c3b0, c3b1⟩ := Ye c3; clear c3; replace H := Yi H; rcases H with ⟨c4, H⟩ | ⟨c4, H⟩
    ·have c4b0 := decide_eq_true c4; clear c4; replace H := Yg H; obtain ⟨c5, H⟩ := H; have c5b0 := eq_true c5; have c5b1 := decide_eq_true c5
     try have c5b2 : (9223372036854775807 < 1 + x3_1.size) = False := eq_false (Nat.not_lt.2 c5)
     obtain rfl := Option.some.inj H
     go_wp2
     go_ret
     exact ⟨Z2, Z3⟩
    have c4b0 := decide_eq_false c4; clear c4; obtain rfl := Option.some.inj H
    go_wp2
    go_ret
    exact ⟨Z2, Z3⟩
   obtain ⟨c3b0, c3b1⟩ := Yn c3; replace H := Yi H; rcases H with ⟨c6, H⟩ | ⟨c6, H⟩
   ·have c6b0 := decide_eq_true c6; clear c6; obtain ⟨ji7, hji7⟩ : ∃ j_ : Int, (wrap64 (-(Int.tmod x4_1 10))) = j_ := ⟨_, rfl⟩; replace H : (if 0 ≤ (ji7) then (if (ji7) ≤ (wrap64 ((ji7) + 1)) then (if (wrap64 ((ji7) + 1)) ≤ 10 then (if ((⟨#[48, 49, 50, 51, 52, 53, 54, 55, 56, 57]⟩ : ByteArray).extract ((ji7) : Int).toNat ((wrap64 ((ji7) + 1)) : Int).toNat).size + x3_1.size ≤ 9223372036854775807 then (spec_DecText.l0 k1 a0 (((⟨#[48, 49, 50, 51, 52, 53, 54, 55, 56, 57]⟩ : ByteArray).extract ((ji7) : Int).toNat ((wrap64 ((ji7) + 1)) : Int).toNat) ++ x3_1) (wrap64 (Int.tdiv x4_1 10))) else (none)) else (none)) else (none)) else (none)) = some r := Z22; have hji7w : (IntKind.i64.wrap (-(Int.tmod x4_1 10))) = ji7 := (i64_w _).trans hji7; replace H := Yg H; obtain ⟨c8, H⟩ := H; have c8b0 := eq_true c8; have c8b1 := decide_eq_true c8; clear c8; replace H := Yg H; obtain ⟨c9, H⟩ := H; have c9b0 := eq_true c9; have c9b1 := decide_eq_true c9; replace H := Yg H; obtain ⟨c10, H⟩ := H; have c10b0 := eq_true c10; have c10b1 := decide_eq_true c10; replace H := Yg H; obtain ⟨c11, H⟩ := H; have c11b0 := eq_true c11; have c11b1 := decide_eq_true c11
    try have c11b2 : (9223372036854775807 < ((⟨#[48, 49, 50, 51, 52, 53, 54, 55, 56, 57]⟩ : ByteArray).extract ((ji7) : Int).toNat ((wrap64 ((ji7) + 1)) : Int).toNat).size + x3_1.size) = False := eq_false (Nat.not_lt.2 c11)
    have H' := Aside0.mk H; clear H
    go_wp2
    go_roundg k1
    case measure => have := HK1.out; omega
    case rel => exact ⟨(((⟨#[48, 49, 50, 51, 52, 53, 54, 55, 56, 57]⟩ : ByteArray).extract ((ji7) : Int).toNat ((wrap64 ((ji7) + 1)) : Int).toNat) ++ x3_1), (wrap64 (Int.tdiv x4_1 10)), Z23, Z2, H', ⟨Z9⟩, Z3⟩
   have c6b0 := decide_eq_false c6; clear c6; obtain ⟨ji12, hji12⟩ : ∃ j_ : Int, (Int.tmod x4_1 10) = j_ := ⟨_, rfl⟩; replace H : (if 0 ≤ (ji12) then (if (ji12) ≤ (wrap64 ((ji12) + 1)) then (if (wrap64 ((ji12) + 1)) ≤ 10 then (if ((⟨#[48, 49, 50, 51, 52, 53, 54, 55, 56, 57]⟩ : ByteArray).extract ((ji12) : Int).toNat ((wrap64 ((ji12) + 1)) : Int).toNat).size + x3_1.size ≤ 9223372036854775807 then (spec_DecText.l0 k1 a0 (((⟨#[48, 49, 50, 51, 52, 53, 54, 55, 56, 57]⟩ : ByteArray).extract ((ji12) : Int).toNat ((wrap64 ((ji12) + 1)) : Int).toNat) ++ x3_1) (wrap64 (Int.tdiv x4_1 10))) else (none)) else (none)) else (none)) else (none)) = some r := Z29
   (try rw [hji12] at c6b0)
   replace H := Yg H; obtain ⟨c13, H⟩ := H; have c13b0 := eq_true c13; have c13b1 := decide_eq_true c13; clear c13; replace H := Yg H; obtain ⟨c14, H⟩ := H; have c14b0 := eq_true c14; have c14b1 := decide_eq_true c14; replace H := Yg H; obtain ⟨c15, H⟩ := H; have c15b0 := eq_true c15; have c15b1 := decide_eq_true c15; replace H := Yg H; obtain ⟨c16, H⟩ := H; have c16b0 := eq_true c16; have c16b1 := decide_eq_true c16
   try have c16b2 : (9223372036854775807 < ((⟨#[48, 49, 50, 51, 52, 53, 54, 55, 56, 57]⟩ : ByteArray).extract ((ji12) : Int).toNat ((wrap64 ((ji12) + 1)) : Int).toNat).size + x3_1.size) = False := eq_false (Nat.not_lt.2 c16)
   have H' := Aside0.mk H; clear H
   go_wp2
   go_roundg k1
   case measure => have := HK1.out; omega
   case rel => exact ⟨(((⟨#[48, 49, 50, 51, 52, 53, 54, 55, 56, 57]⟩ : ByteArray).extract ((ji12) : Int).toNat ((wrap64 ((ji12) + 1)) : Int).toNat) ++ x3_1), (wrap64 (Int.tdiv x4_1 10)), (by first | rfl | (simp; done) | (simp only [← hji12] <;> (first | rfl | simp)) | (simp [*]; done)), Z2, H', ⟨Z9⟩, Z3⟩

end Go.Proofs.YtfjmpdcflnaogaaGreatDoor.QFnExactImport
