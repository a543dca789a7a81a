/-
Plain functions for the Go functions that a law reaches, each with a proof that the translation's call comes to just that; no conditions beyond those written in each.
-/
import Derived.Test.YtfjmpdcflnaogaaGreatDoorSFnExactImport
namespace Go.Proofs.YtfjmpdcflnaogaaGreatDoor.QFnExactImport
open Go.RowKit Go.Proofs.YtfjmpdcflnaogaaGreatDoorW.PrintWords Go.Proofs.YtfjmpdcflnaogaaGreatDoorW.PrintLast Go.Proofs.YtfjmpdcflnaogaaGreatDoorW.PrintMore
attribute [local go_sem] max2_int min2_int max_two min_two max_three min_three max_four min_four   -- for this text's walks alone
set_option linter.unusedVariables false
set_option maxHeartbeats 8000000
set_option maxRecDepth 100000
set_option linter.unusedSimpArgs false

theorem eqA46 (d : Nat) (w : World) (x0 y0 : Int) (x1 y1 : ByteArray) (x2 y2 : Int) (x3 y3 : Bool) (x4 y4 : Int) :
  (Op.equalIn (d + 2) 46 (.agg #[.int .i64 x0, .string x1, .int .i32 x2, .bool x3, .int .u32 x4]) (.agg #[.int .i64 y0, .string y1, .int .i32 y2, .bool y3, .int .u32 y4])).run Tryz.prog w = .ok (x0 == y0 && (x1.toList == y1.toList && (x2 == y2 && (x3 == y3 && (x4 == y4))))) w := by
 refine eqA_of Tryz.underlying46 Z0 ?_
 refine eqf_cons (by rfl) Z1 Z1 (by go_simp) ?_
 refine eqf_cons (by rfl) Z1 Z1 (by go_simp) ?_
 refine eqf_cons (by rfl) Z1 Z1 (by go_simp) ?_
 refine eqf_cons (by rfl) Z1 Z1 (by go_simp) ?_
 exact eqf_last (by rfl) Z1 Z1 (by go_simp)
def impl_isSpace.f (a0 : Int) : Option (Bool) := if a0 = 32 then (some true) else (if a0 = 10 then (some true) else (some (a0 == 9)))
theorem impl_isSpace.calls (a0 : Int) (r : Bool) (w : World) (h : impl_isSpace.f a0 = some r) :
  Calls Tryz.prog 48 #[.int .u8 a0] w fun e w' => e = .returned (.bool r) ∧ Drawn0 w w' := by
 unfold impl_isSpace.f at h; have H := h; clear h; replace H := Yi H; rcases H with ⟨c2, H⟩ | ⟨c2, H⟩
 ·obtain ⟨c2b0, c2b1⟩ := Ye c2; clear c2; obtain rfl := Option.some.inj H; go_enter Tryz.func48, Tryz.ntmps48
  go_wp2
  go_ret
  exact ⟨Z2, Z3⟩
 obtain ⟨c2b0, c2b1⟩ := Yn c2; replace H := Yi H; rcases H with ⟨c3, H⟩ | ⟨c3, H⟩
 ·obtain ⟨c3b0, c3b1⟩ := Ye c3; clear c3; obtain rfl := Option.some.inj H; go_enter Tryz.func48, Tryz.ntmps48
  go_wp2
  go_ret
  exact ⟨Z2, Z3⟩
 obtain ⟨c3b0, c3b1⟩ := Yn c3; obtain rfl := Option.some.inj H; go_enter Tryz.func48, Tryz.ntmps48
 go_wp2
 go_ret
 exact ⟨Z2, Z3⟩

mutual
def impl_spots.l0 : Nat → ByteArray → List (S57) → Int → Option ((List (S57)))
 | 0, _, _, _ => none
 | k + 1, x0, x3, x4 => if x4 < (x0.size : Int) then (if 0 ≤ x4 then ((impl_isSpace.f (bt x0 x4)).bind fun t104 => (if t104 = true then (impl_spots.l0 k x0 x3 (wrap64 (x4 + 1))) else (impl_spots.l1 k x0 x3 x4 x4))) else (none)) else (some x3)
def impl_spots.l1 : Nat → ByteArray → List (S57) → Int → Int → Option ((List (S57)))
 | 0, _, _, _, _ => none
 | k + 1, x0, x3, x4, x5 => if x4 < (x0.size : Int) then (if 0 ≤ x4 then ((impl_isSpace.f (bt x0 x4)).bind fun t105 => (if t105 = true then (if 0 ≤ x5 then (if x5 ≤ x4 then (if x4 ≤ (x0.size : Int) then (if x3.length < 5864062014805 then (impl_spots.l0 k x0 (x3 ++ [(⟨x0.extract (x5 : Int).toNat (x4 : Int).toNat, x5⟩ : S57)]) x4) else (none)) else (none)) else (none)) else (none)) else (impl_spots.l1 k x0 x3 (wrap64 (x4 + 1)) x5))) else (none)) else (if 0 ≤ x5 then (if x5 ≤ x4 then (if x4 ≤ (x0.size : Int) then (if x3.length < 5864062014805 then (impl_spots.l0 k x0 (x3 ++ [(⟨x0.extract (x5 : Int).toNat (x4 : Int).toNat, x5⟩ : S57)]) x4) else (none)) else (none)) else (none)) else (none))
end
def impl_spots.f (k : Nat) (a0 : ByteArray) : Option ((List (S57))) := impl_spots.l0 k a0 (([] : List (S57))) 0
theorem impl_spots.calls (k : Nat) (a0 : ByteArray) (r : List (S57)) (w : World) (h : impl_spots.f k a0 = some r) :
  Calls Tryz.prog 24 #[.string a0] w fun e w' => ∃ v0_ : Value, e = .returned (v0_) ∧ Kd.R k57 57 w' w.heap.size (fun _ => True) v0_ r ∧ Below w.heap.size w w' := by
 have hu57 := Tryz.underlying57; have HB := Z (Below.refl w.heap.size w); unfold impl_spots.f at h; have H := h; clear h; obtain ⟨y101, hy101⟩ : ∃ y_ : List (S57), y_ = (([] : List (S57))) := ⟨_, rfl⟩; replace H : (impl_spots.l0 k a0 y101 0) = some r := Yy hy101 H; have Ny101 := Aside0.mk hy101; clear hy101; have H' := Aside0.mk H; clear H; go_enter Tryz.func24, Tryz.ntmps24
 go_wp2_with (first | ((with_reducible refine gate_dst (N := 6) rfl ?_); refine Kd.R_lit k57 _ 57 (by rfl) (N := 6) (by rfl) (xs := ([] : List (S57))) (inner := []) (ok := fun _ => True) (okp := fun _ => True) Z4 (Reps.none _ _) (fun _ hk => hk) trivial (Below.refl _ _) (Nat.le_refl _) (by simp) ?_; intro v102 w2 ho3 hb hg_ hnew_; clear hg_ hnew_; (first | rw [← Ny101.out] at ho3 | (simp only [Int.reduceToNat] at ho3; rw [← Ny101.out] at ho3)); have HO103 := Z (Kd.R_lower ho3 (below_size Z90)); replace HB := Z (below_step Z90 hb); clear hb ho3))
 go_loopg [3, 4] k (fun kq v3 v4 w' => ∃ (x3_1 : List (S57)) (x4_1 : Int), v4 = .int .i64 x4_1 ∧ Aside0 (impl_spots.l0 kq a0 x3_1 x4_1 = some r) ∧ Aside0 (kq ≤ k) ∧ Aside0 (Kd.R k57 57 w' w.heap.size (fun _ => True) v3 x3_1) ∧ Aside0 (Below w.heap.size w w'))
 case atStart => exact ⟨(y101), (0), Z2, H', ⟨Nat.le_refl _⟩, ⟨(Z6 HO103)⟩, ⟨Z90⟩⟩
 case round =>
  clear H'; (try clear c2); (try clear p2); obtain ⟨x3_1, x4_1, rfl, HA, HK1, HO_3, HB⟩ := hrel
  cases gk with
  | zero => exact absurd HA.out (by simp [impl_spots.l0])
  | succ k1 =>
   have H := HA.out; clear HA; simp only [impl_spots.l0] at H; replace H := Yi H; rcases H with ⟨c4, H⟩ | ⟨c4, H⟩
   ·have c4b0 := decide_eq_true c4; clear c4; replace H := Yg H; obtain ⟨c5, H⟩ := H; have c5b0 := decide_eq_true c5; clear c5; replace H := Yd H; obtain ⟨t104, A7, H⟩ := H; (try dsimp only at H); by_cases c8 : t104 = true
    ·subst c8; replace H := Yt H; have H' := Aside0.mk H; clear H; have p6 : 0 ≤ (x4_1 : Int) := of_decide_eq_true Z7; have q6 : x4_1 < (a0.size : Int) := of_decide_eq_true Z7; have hx6 := bt_at a0 x4_1; replace p6 := eq_true p6; replace q6 := eq_true q6
     go_wp2_with (first | ((with_reducible refine gate_callee (f := 48) rfl ?_); refine goesL_ (some 14) rfl rfl Tryz.func48 Z0 rfl #[.int .u8 (bt a0 x4_1)] rfl Z8 ?_; (with_reducible refine (impl_isSpace.calls (bt a0 x4_1) true _ A7.out).mono ?_); rintro e w' ⟨rfl, ⟨nd, rfl⟩⟩; refine ⟨_, rfl, ?_⟩))
     go_roundg k1
     case measure => have := HK1.out; omega
     case rel => exact ⟨(x3_1), (wrap64 (x4_1 + 1)), Z2, H', ⟨Z9⟩, ⟨(Z6 HO_3)⟩, ⟨Z90⟩⟩
    replace c8 := Bool.eq_false_iff.mpr c8; subst c8; replace H := Yf H; have H' := Aside0.mk H; clear H; have p6 : 0 ≤ (x4_1 : Int) := of_decide_eq_true Z7; have q6 : x4_1 < (a0.size : Int) := of_decide_eq_true Z7; have hx6 := bt_at a0 x4_1; replace p6 := eq_true p6; replace q6 := eq_true q6
    go_wp2_with (first | ((with_reducible refine gate_callee (f := 48) rfl ?_); refine goesL_ (some 14) rfl rfl Tryz.func48 Z0 rfl #[.int .u8 (bt a0 x4_1)] rfl Z8 ?_; (with_reducible refine (impl_isSpace.calls (bt a0 x4_1) false _ A7.out).mono ?_); rintro e w' ⟨rfl, ⟨nd, rfl⟩⟩; refine ⟨_, rfl, ?_⟩))
    go_loopg [4] k1 (fun kq v4 w' => ∃ (x4_2 : Int), v4 = .int .i64 x4_2 ∧ Aside0 (impl_spots.l1 kq a0 x3_1 x4_2 x4_1 = some r) ∧ Aside0 (kq ≤ k1) ∧ Aside0 (Kd.R k57 57 w' w.heap.size (fun _ => True) u3 x3_1) ∧ Aside0 (Below w.heap.size w w'))
    case atStart => exact ⟨(x4_1), Z2, H', ⟨Nat.le_refl _⟩, ⟨(Z6 HO_3)⟩, ⟨Z90⟩⟩
    case round =>
     clear H'; (try clear c2); (try clear p2); (try clear c4); (try clear c4b0); (try clear c5); (try clear c5b0); (try clear p6); (try clear q6); (try clear hx6); (try clear c8); (try clear p2); (try clear p6); (try clear q6); obtain ⟨x4_2, rfl, HA, HK2, HO_3, HB⟩ := hrel
     cases gk with
     | zero => exact absurd HA.out (by simp [impl_spots.l1])
     | succ k2 =>
      have H := HA.out; clear HA; simp only [impl_spots.l1] at H; replace H := Yi H; rcases H with ⟨c9, H⟩ | ⟨c9, H⟩
      ·have c9b0 := decide_eq_true c9; clear c9; replace H := Yg H; obtain ⟨c10, H⟩ := H; have c10b0 := decide_eq_true c10; clear c10; replace H := Yd H; obtain ⟨t105, A12, H⟩ := H; (try dsimp only at H); by_cases c13 : t105 = true
       ·subst c13; replace H := Yt H; replace H := Yg H; obtain ⟨c14, H⟩ := H; have c14b0 := eq_true c14; have c14b1 := decide_eq_true c14; clear c14; replace H := Yg H; obtain ⟨c15, H⟩ := H; have c15b0 := eq_true c15; have c15b1 := decide_eq_true c15; clear c15; replace H := Yg H; obtain ⟨c16, H⟩ := H; have c16b0 := eq_true c16; have c16b1 := decide_eq_true c16; clear c16; replace H := Yg H; obtain ⟨c17, H⟩ := H; have LMc17 := Aside0.mk c17; clear c17; obtain ⟨y106, hy106⟩ : ∃ y_ : List (S57), y_ = (x3_1 ++ [(⟨a0.extract (x4_1 : Int).toNat (x4_2 : Int).toNat, x4_1⟩ : S57)]) := ⟨_, rfl⟩; replace H : (impl_spots.l0 k2 a0 y106 x4_2) = some r := Yy hy106 H; have Ny106 := Aside0.mk hy106; clear hy106; have H' := Aside0.mk H; clear H; have p11 : 0 ≤ (x4_2 : Int) := of_decide_eq_true Z7; have q11 : x4_2 < (a0.size : Int) := of_decide_eq_true Z7; have hx11 := bt_at a0 x4_2; replace p11 := eq_true p11; replace q11 := eq_true q11
        go_wp2_with (first | (go_at_call 48; (with_reducible refine (impl_isSpace.calls (bt a0 x4_2) true _ A12.out).mono ?_); rintro e w' ⟨rfl, ⟨nd, rfl⟩⟩) | ((with_reducible refine gate_builtin (b := .append) (xs := #[.tmp 31, .tmp 38]) rfl ?_); at_builtin; refine Kd.R_append k57 (w0 := w) w.heap.size rfl (.tmp 31) (.tmp 38) 54 57 (.agg #[(.string ⟨#[]⟩), (.int .i64 0)]) 24 rfl Tryz.underlying54 info57 rfl (by decide) (by omega) u3 x3_1 (⟨a0.extract (x4_1 : Int).toNat (x4_2 : Int).toNat, x4_1⟩ : S57) [.string (a0.extract (x4_1 : Int).toNat (x4_2 : Int).toNat), .int .i64 x4_1] (fun _ => True) (fun _ => False) rfl rfl ?aP (fun _ hk => hk.elim) ?aF ?aO ?aB ?aS ?aL ?_; (case aP => exact k57_mkM _ _ _ (⟨a0.extract (x4_1 : Int).toNat (x4_2 : Int).toNat, x4_1⟩ : S57)); (case aB => exact Z90); (case aF => exact (fun _ _ => trivial)); (case aO => exact (Z6 HO_3)); (case aS => exact (below_size Z90)); (case aL => have := LMc17.out; omega); intro v107 w18 ho hb hg hat; rw [← Ny106.out] at ho; replace HB := Z (hb); have HO108 := Z (ho); clear HO_3; clear ho hb hg hat))
        go_roundg k2
        case measure => have := HK1.out; have := HK2.out; omega
        case rel => exact ⟨(y106), (x4_2), Z2, H', ⟨Z10⟩, ⟨(Z6 HO108)⟩, ⟨Z90⟩⟩
       replace c13 := Bool.eq_false_iff.mpr c13; subst c13; replace H := Yf H; have H' := Aside0.mk H; clear H; have p11 : 0 ≤ (x4_2 : Int) := of_decide_eq_true Z7; have q11 : x4_2 < (a0.size : Int) := of_decide_eq_true Z7; have hx11 := bt_at a0 x4_2; replace p11 := eq_true p11; replace q11 := eq_true q11
       go_wp2_with (first | (go_at_call 48; (with_reducible refine (impl_isSpace.calls (bt a0 x4_2) false _ A12.out).mono ?_); rintro e w' ⟨rfl, ⟨nd, rfl⟩⟩))
       go_roundg k2
       case measure => have := HK1.out; have := HK2.out; omega
       case rel => exact ⟨(wrap64 (x4_2 + 1)), Z2, H', ⟨Z10⟩, ⟨(Z6 HO_3)⟩, ⟨Z90⟩⟩
      have c9b0 := decide_eq_false c9; clear c9; replace H := Yg H; obtain ⟨c19, H⟩ := H; have c19b0 := eq_true c19; have c19b1 := decide_eq_true c19; clear c19; replace H := Yg H; obtain ⟨c20, H⟩ := H; have c20b0 := eq_true c20; have c20b1 := decide_eq_true c20; clear c20; replace H := Yg H; obtain ⟨c21, H⟩ := H; have c21b0 := eq_true c21; have c21b1 := decide_eq_true c21; clear c21; replace H := Yg H; obtain ⟨c22, H⟩ := H; have LMc22 := Aside0.mk c22; clear c22; obtain ⟨y109, hy109⟩ : ∃ y_ : List (S57), y_ = (x3_1 ++ [(⟨a0.extract (x4_1 : Int).toNat (x4_2 : Int).toNat, x4_1⟩ : S57)]) := ⟨_, rfl⟩; replace H : (impl_spots.l0 k2 a0 y109 x4_2) = some r := Yy hy109 H; have Ny109 := Aside0.mk hy109; clear hy109; have H' := Aside0.mk H; clear H
      go_wp2_with (first | ((with_reducible refine gate_builtin (b := .append) (xs := #[.tmp 31, .tmp 38]) rfl ?_); at_builtin; refine Kd.R_append k57 (w0 := w) w.heap.size rfl (.tmp 31) (.tmp 38) 54 57 (.agg #[(.string ⟨#[]⟩), (.int .i64 0)]) 24 rfl Tryz.underlying54 info57 rfl (by decide) (by omega) u3 x3_1 (⟨a0.extract (x4_1 : Int).toNat (x4_2 : Int).toNat, x4_1⟩ : S57) [.string (a0.extract (x4_1 : Int).toNat (x4_2 : Int).toNat), .int .i64 x4_1] (fun _ => True) (fun _ => False) rfl rfl ?aP (fun _ hk => hk.elim) ?aF ?aO ?aB ?aS ?aL ?_; (case aP => exact k57_mkM _ _ _ (⟨a0.extract (x4_1 : Int).toNat (x4_2 : Int).toNat, x4_1⟩ : S57)); (case aB => exact Z90); (case aF => exact (fun _ _ => trivial)); (case aO => exact (Z6 HO_3)); (case aS => exact (below_size Z90)); (case aL => have := LMc22.out; omega); intro v110 w23 ho hb hg hat; rw [← Ny109.out] at ho; replace HB := Z (hb); have HO111 := Z (ho); clear HO_3; clear ho hb hg hat))
      go_roundg k2
      case measure => have := HK1.out; have := HK2.out; omega
      case rel => exact ⟨(y109), (x4_2), Z2, H', ⟨Z10⟩, ⟨(Z6 HO111)⟩, ⟨Z90⟩⟩
   have c4b0 := decide_eq_false c4; clear c4; obtain rfl := Option.some.inj H
   go_wp2
   go_ret
   exact ⟨_, Z91, (Z6 HO_3), Z90⟩

def impl_nameTag.f (a0 : Int) : Option (Int) := if a0 = 1 then (some 1) else (if a0 = 2 then (some 3) else (if a0 = 3 then (some 4) else (if a0 = 4 then (some 9) else (if a0 = 5 then (some 10) else (if a0 = 6 then (some 11) else (some 0))))))
theorem impl_nameTag.calls (a0 : Int) (r : Int) (w : World) (h : impl_nameTag.f a0 = some r) :
  Calls Tryz.prog 52 #[.int .i64 a0] w fun e w' => e = .returned (.int .u32 r) ∧ Drawn0 w w' := by
 unfold impl_nameTag.f at h; have H := h; clear h; replace H := Yi H; rcases H with ⟨c2, H⟩ | ⟨c2, H⟩
 ·obtain ⟨c2b0, c2b1⟩ := Ye c2; clear c2; obtain rfl := Option.some.inj H; go_enter Tryz.func52, Tryz.ntmps52
  go_wp2
  go_ret
  exact ⟨Z2, Z3⟩
 obtain ⟨c2b0, c2b1⟩ := Yn c2; replace H := Yi H; rcases H with ⟨c3, H⟩ | ⟨c3, H⟩
 ·obtain ⟨c3b0, c3b1⟩ := Ye c3; clear c3; obtain rfl := Option.some.inj H; go_enter Tryz.func52, Tryz.ntmps52
  go_wp2
  go_ret
  exact ⟨Z2, Z3⟩
 obtain ⟨c3b0, c3b1⟩ := Yn c3; replace H := Yi H; rcases H with ⟨c4, H⟩ | ⟨c4, H⟩
 ·obtain ⟨c4b0, c4b1⟩ := Ye c4; clear c4; obtain rfl := Option.some.inj H; go_enter Tryz.func52, Tryz.ntmps52
  go_wp2
  go_ret
  exact ⟨Z2, Z3⟩
 obtain ⟨c4b0, c4b1⟩ := Yn c4; replace H := Yi H; rcases H with ⟨c5, H⟩ | ⟨c5, H⟩
 ·obtain ⟨c5b0, c5b1⟩ := Ye c5; clear c5; obtain rfl := Option.some.inj H; go_enter Tryz.func52, Tryz.ntmps52
  go_wp2
  go_ret
  exact ⟨Z2, Z3⟩
 obtain ⟨c5b0, c5b1⟩ := Yn c5; replace H := Yi H; rcases H with ⟨c6, H⟩ | ⟨c6, H⟩
 ·obtain ⟨c6b0, c6b1⟩ := Ye c6; clear c6; obtain rfl := Option.some.inj H; go_enter Tryz.func52, Tryz.ntmps52
  go_wp2
  go_ret
  exact ⟨Z2, Z3⟩
 obtain ⟨c6b0, c6b1⟩ := Yn c6; replace H := Yi H; rcases H with ⟨c7, H⟩ | ⟨c7, H⟩
 ·obtain ⟨c7b0, c7b1⟩ := Ye c7; clear c7; obtain rfl := Option.some.inj H; go_enter Tryz.func52, Tryz.ntmps52
  go_wp2
  go_ret
  exact ⟨Z2, Z3⟩
 obtain ⟨c7b0, c7b1⟩ := Yn c7; obtain rfl := Option.some.inj H; go_enter Tryz.func52, Tryz.ntmps52
 go_wp2
 go_ret
 exact ⟨Z2, Z3⟩

def impl_letters.f  : Option (ByteArray) := some (⟨#[32, 114, 116, 111, 101, 97, 110, 105, 115, 109, 99, 121, 108, 103, 102, 119, 100, 118, 112, 98, 104, 120, 117, 113, 48, 49, 50, 51, 52, 53, 54, 55, 56, 57, 106, 45, 107, 46, 122, 47, 59, 39, 33, 43, 64, 42, 44, 63]⟩ : ByteArray)
theorem impl_letters.calls  (r : ByteArray) (w : World) (h : impl_letters.f  = some r) :
  Calls Tryz.prog 121 #[] w fun e w' => e = .returned (.string r) ∧ Drawn0 w w' := by
 unfold impl_letters.f at h; have H := h; clear h; obtain rfl := Option.some.inj H; go_enter Tryz.func121, Tryz.ntmps121
 go_wp2
 go_ret
 exact ⟨Z2, Z3⟩

def stringslite_IndexByte.f (a0 : ByteArray) (a1 : Int) : Option (Int) := some (Lib.indexByte a0.data.toList a1.toNat.toUInt8)
set_option maxHeartbeats 1000000 in
set_option maxRecDepth 100000 in
theorem stringslite_IndexByte.calls (a0 : ByteArray) (a1 : Int) (r : Int) (w : World) (h : stringslite_IndexByte.f a0 a1 = some r) :
  Calls Tryz.prog 131 #[.string a0, .int .u8 a1] w fun e w' => e = .returned (.int .i64 r) ∧ Drawn0 w w' := by
 obtain rfl := Option.some.inj h; go_enter Tryz.func131, Tryz.ntmps131
 go_wp2
 rw [run_callFunc_extern Tryz.func153 Z0 Z0 Z0 (e := Extern.BytealgIndexByte.indexByte) Z0, Lib.run_indexByteString]; simp only [Result.andThen]; rw [Oper.upon_value]
 go_wp2
 go_ret
 exact ⟨rfl, Drawn0.refl _⟩

def strings_IndexByte.f (a0 : ByteArray) (a1 : Int) : Option (Int) := (stringslite_IndexByte.f a0 a1).bind fun t112 => (some t112)
theorem strings_IndexByte.calls (a0 : ByteArray) (a1 : Int) (r : Int) (w : World) (h : strings_IndexByte.f a0 a1 = some r) :
  Calls Tryz.prog 135 #[.string a0, .int .u8 a1] w fun e w' => e = .returned (.int .i64 r) ∧ Drawn0 w w' := by
 unfold strings_IndexByte.f at h; have H := h; clear h; replace H := Yd H; obtain ⟨t112, A3, H⟩ := H; (try dsimp only at H); obtain rfl := Option.some.inj H; go_enter Tryz.func135, Tryz.ntmps135
 go_wp2_with (first | ((with_reducible refine gate_callee (f := 131) rfl ?_); refine goesL_ (some 7) rfl rfl Tryz.func131 Z0 rfl #[.string a0, .int .u8 a1] rfl Z8 ?_; (with_reducible refine (stringslite_IndexByte.calls a0 a1 t112 _ A3.out).mono ?_); rintro e w' ⟨rfl, ⟨nd, rfl⟩⟩; refine ⟨_, rfl, ?_⟩))
 go_ret
 exact ⟨Z2, Z3⟩

def impl_LetterOf.f (a0 : Int) : Option (Int) := (impl_letters.f).bind fun t113 => ((strings_IndexByte.f t113 a0).bind fun t114 => (some t114))
theorem impl_LetterOf.calls (a0 : Int) (r : Int) (w : World) (h : impl_LetterOf.f a0 = some r) :
  Calls Tryz.prog 109 #[.int .u8 a0] w fun e w' => e = .returned (.int .i64 r) ∧ Drawn0 w w' := by
 unfold impl_LetterOf.f at h; have H := h; clear h; replace H := Yd H; obtain ⟨t113, A2, H⟩ := H; (try dsimp only at H); replace H := Yd H; obtain ⟨t114, A3, H⟩ := H; (try dsimp only at H); obtain rfl := Option.some.inj H; go_enter Tryz.func109, Tryz.ntmps109
 go_wp2_with (first | ((with_reducible refine gate_callee (f := 121) rfl ?_); refine goesL_ (some 3) rfl rfl Tryz.func121 Z0 rfl #[] rfl Z8 ?_; (with_reducible refine (impl_letters.calls  t113 _ A2.out).mono ?_); rintro e w' ⟨rfl, ⟨nd, rfl⟩⟩; refine ⟨_, rfl, ?_⟩) | ((with_reducible refine gate_callee (f := 135) rfl ?_); refine goesL_ (some 5) rfl rfl Tryz.func135 Z0 rfl #[.string t113, .int .u8 a0] rfl Z8 ?_; (with_reducible refine (strings_IndexByte.calls t113 a0 t114 _ A3.out).mono ?_); rintro e w' ⟨rfl, ⟨nd, rfl⟩⟩; refine ⟨_, rfl, ?_⟩))
 go_ret
 exact ⟨Z2, Z3⟩

def impl_within.f (a0 : Int) (a1 : Int) (a2 : Int) : Option (Bool) := if a1 ≤ a0 then (some (decide (a0 ≤ a2))) else (some false)
theorem impl_within.calls (a0 : Int) (a1 : Int) (a2 : Int) (r : Bool) (w : World) (h : impl_within.f a0 a1 a2 = some r) :
  Calls Tryz.prog 110 #[.int .i64 a0, .int .i64 a1, .int .i64 a2] w fun e w' => e = .returned (.bool r) ∧ Drawn0 w w' := by
 unfold impl_within.f at h; have H := h; clear h; replace H := Yi H; rcases H with ⟨c4, H⟩ | ⟨c4, H⟩
 ·have c4b0 := decide_eq_true c4; clear c4; obtain rfl := Option.some.inj H; go_enter Tryz.func110, Tryz.ntmps110
  go_wp2
  go_ret
  exact ⟨Z2, Z3⟩
 have c4b0 := decide_eq_false c4; clear c4; obtain rfl := Option.some.inj H; go_enter Tryz.func110, Tryz.ntmps110
 go_wp2
 go_ret
 exact ⟨Z2, Z3⟩

def impl_NameOk.l0 : Nat → ByteArray → Int → Int → Option (Bool)
 | 0, _, _, _ => none
 | k + 1, x0, x5, x6 => if x6 < x5 then (if 0 ≤ x6 then (if x6 < (x0.size : Int) then ((impl_LetterOf.f (bt x0 x6)).bind fun t115 => (if t115 < 1 then (some false) else (impl_NameOk.l0 k x0 x5 (wrap64 (x6 + 1))))) else (none)) else (none)) else ((impl_within.f (x0.size : Int) 1 24).bind fun t116 => (some t116))
def impl_NameOk.f (k : Nat) (a0 : ByteArray) : Option (Bool) := impl_NameOk.l0 k a0 (a0.size : Int) 0
theorem impl_NameOk.calls (k : Nat) (a0 : ByteArray) (r : Bool) (w : World) (h : impl_NameOk.f k a0 = some r) :
  Calls Tryz.prog 88 #[.string a0] w fun e w' => e = .returned (.bool r) ∧ Drawn0 w w' := by
 unfold impl_NameOk.f at h; have H := h; clear h; have H' := Aside0.mk H; clear H; go_enter Tryz.func88, Tryz.ntmps88
 go_wp2
 go_loopg [6] k (fun kq v6 w' => ∃ (x6_1 : Int), v6 = .int .i64 x6_1 ∧ Aside0 (impl_NameOk.l0 kq a0 (a0.size : Int) x6_1 = some r) ∧ Aside0 (kq ≤ k) ∧ Drawn0 w w')
 case atStart => exact ⟨(0), Z2, H', ⟨Nat.le_refl _⟩, Z3⟩
 case round =>
  clear H'; obtain ⟨x6_1, rfl, HA, HK1, ⟨m1, rfl⟩⟩ := hrel
  cases gk with
  | zero => exact absurd HA.out (by simp [impl_NameOk.l0])
  | succ k1 =>
   have H := HA.out; clear HA; simp only [impl_NameOk.l0] at H; replace H := Yi H; rcases H with ⟨c2, H⟩ | ⟨c2, H⟩
   ·have c2b0 := decide_eq_true c2; clear c2; replace H := Yg H; obtain ⟨c3, H⟩ := H; have c3b0 := decide_eq_true c3; clear c3; replace H := Yg H; obtain ⟨c4, H⟩ := H; have c4b0 := decide_eq_true c4; clear c4; replace H := Yd H; obtain ⟨t115, A6, H⟩ := H; (try dsimp only at H); replace H := Yi H; rcases H with ⟨c7, H⟩ | ⟨c7, H⟩
    ·have c7b0 := decide_eq_true c7; clear c7; obtain rfl := Option.some.inj H; have p5 : 0 ≤ (x6_1 : Int) := of_decide_eq_true Z7; have q5 : x6_1 < (a0.size : Int) := of_decide_eq_true Z7; have hx5 := bt_at a0 x6_1; replace p5 := eq_true p5; replace q5 := eq_true q5
     go_wp2_with (first | ((with_reducible refine gate_callee (f := 109) rfl ?_); refine goesL_ (some 12) rfl rfl Tryz.func109 Z0 rfl #[.int .u8 (bt a0 x6_1)] rfl Z8 ?_; (with_reducible refine (impl_LetterOf.calls (bt a0 x6_1) t115 _ A6.out).mono ?_); rintro e w' ⟨rfl, ⟨nd, rfl⟩⟩; refine ⟨_, rfl, ?_⟩))
     go_ret
     exact ⟨Z2, Z3⟩
    have c7b0 := decide_eq_false c7; clear c7; have H' := Aside0.mk H; clear H; have p5 : 0 ≤ (x6_1 : Int) := of_decide_eq_true Z7; have q5 : x6_1 < (a0.size : Int) := of_decide_eq_true Z7; have hx5 := bt_at a0 x6_1; replace p5 := eq_true p5; replace q5 := eq_true q5
    go_wp2_with (first | ((with_reducible refine gate_callee (f := 109) rfl ?_); refine goesL_ (some 12) rfl rfl Tryz.func109 Z0 rfl #[.int .u8 (bt a0 x6_1)] rfl Z8 ?_; (with_reducible refine (impl_LetterOf.calls (bt a0 x6_1) t115 _ A6.out).mono ?_); rintro e w' ⟨rfl, ⟨nd, rfl⟩⟩; refine ⟨_, rfl, ?_⟩))
    go_roundg k1
    case measure => have := HK1.out; omega
    case rel => exact ⟨(wrap64 (x6_1 + 1)), Z2, H', ⟨Z9⟩, Z3⟩
   have c2b0 := decide_eq_false c2; clear c2; replace H := Yd H; obtain ⟨t116, A8, H⟩ := H; (try dsimp only at H); obtain rfl := Option.some.inj H
   go_wp2_with (first | ((with_reducible refine gate_callee (f := 110) rfl ?_); refine goesL_ (some 17) rfl rfl Tryz.func110 Z0 rfl #[.int .i64 (a0.size : Int), .int .i64 1, .int .i64 24] rfl Z8 ?_; (with_reducible refine (impl_within.calls (a0.size : Int) 1 24 t116 _ A8.out).mono ?_); rintro e w' ⟨rfl, ⟨nd, rfl⟩⟩; refine ⟨_, rfl, ?_⟩))
   go_ret
   exact ⟨Z2, Z3⟩

def impl_WidthOf.f (a0 : Int) : Option (Int) := (impl_within.f a0 0 7).bind fun t117 => (if t117 = true then (some 4) else ((impl_within.f a0 8 15).bind fun t118 => (if t118 = true then (some 5) else ((impl_within.f a0 16 47).bind fun t119 => (if t119 = true then (some 7) else (some 0))))))
theorem impl_WidthOf.calls (a0 : Int) (r : Int) (w : World) (h : impl_WidthOf.f a0 = some r) :
  Calls Tryz.prog 111 #[.int .i64 a0] w fun e w' => e = .returned (.int .i64 r) ∧ Drawn0 w w' := by
 unfold impl_WidthOf.f at h; have H := h; clear h; replace H := Yd H; obtain ⟨t117, A2, H⟩ := H; (try dsimp only at H); by_cases c3 : t117 = true
 ·subst c3; replace H := Yt H; obtain rfl := Option.some.inj H; go_enter Tryz.func111, Tryz.ntmps111
  go_wp2_with (first | ((with_reducible refine gate_callee (f := 110) rfl ?_); refine goesL_ (some 5) rfl rfl Tryz.func110 Z0 rfl #[.int .i64 a0, .int .i64 0, .int .i64 7] rfl Z8 ?_; (with_reducible refine (impl_within.calls a0 0 7 true _ A2.out).mono ?_); rintro e w' ⟨rfl, ⟨nd, rfl⟩⟩; refine ⟨_, rfl, ?_⟩))
  go_ret
  exact ⟨Z2, Z3⟩
 replace c3 := Bool.eq_false_iff.mpr c3; subst c3; replace H := Yf H; replace H := Yd H; obtain ⟨t118, A4, H⟩ := H; (try dsimp only at H); by_cases c5 : t118 = true
 ·subst c5; replace H := Yt H; obtain rfl := Option.some.inj H; go_enter Tryz.func111, Tryz.ntmps111
  go_wp2_with (first | ((with_reducible refine gate_callee (f := 110) rfl ?_); refine goesL_ (some 5) rfl rfl Tryz.func110 Z0 rfl #[.int .i64 a0, .int .i64 0, .int .i64 7] rfl Z8 ?_; (with_reducible refine (impl_within.calls a0 0 7 false _ A2.out).mono ?_); rintro e w' ⟨rfl, ⟨nd, rfl⟩⟩; refine ⟨_, rfl, ?_⟩) | ((with_reducible refine gate_callee (f := 110) rfl ?_); refine goesL_ (some 8) rfl rfl Tryz.func110 Z0 rfl #[.int .i64 a0, .int .i64 8, .int .i64 15] rfl Z8 ?_; (with_reducible refine (impl_within.calls a0 8 15 true _ A4.out).mono ?_); rintro e w' ⟨rfl, ⟨nd, rfl⟩⟩; refine ⟨_, rfl, ?_⟩))
  go_ret
  exact ⟨Z2, Z3⟩
 replace c5 := Bool.eq_false_iff.mpr c5; subst c5; replace H := Yf H; replace H := Yd H; obtain ⟨t119, A6, H⟩ := H; (try dsimp only at H); by_cases c7 : t119 = true
 ·subst c7; replace H := Yt H; obtain rfl := Option.some.inj H; go_enter Tryz.func111, Tryz.ntmps111
  go_wp2_with (first | ((with_reducible refine gate_callee (f := 110) rfl ?_); refine goesL_ (some 5) rfl rfl Tryz.func110 Z0 rfl #[.int .i64 a0, .int .i64 0, .int .i64 7] rfl Z8 ?_; (with_reducible refine (impl_within.calls a0 0 7 false _ A2.out).mono ?_); rintro e w' ⟨rfl, ⟨nd, rfl⟩⟩; refine ⟨_, rfl, ?_⟩) | ((with_reducible refine gate_callee (f := 110) rfl ?_); refine goesL_ (some 8) rfl rfl Tryz.func110 Z0 rfl #[.int .i64 a0, .int .i64 8, .int .i64 15] rfl Z8 ?_; (with_reducible refine (impl_within.calls a0 8 15 false _ A4.out).mono ?_); rintro e w' ⟨rfl, ⟨nd, rfl⟩⟩; refine ⟨_, rfl, ?_⟩) | ((with_reducible refine gate_callee (f := 110) rfl ?_); refine goesL_ (some 11) rfl rfl Tryz.func110 Z0 rfl #[.int .i64 a0, .int .i64 16, .int .i64 47] rfl Z8 ?_; (with_reducible refine (impl_within.calls a0 16 47 true _ A6.out).mono ?_); rintro e w' ⟨rfl, ⟨nd, rfl⟩⟩; refine ⟨_, rfl, ?_⟩))
  go_ret
  exact ⟨Z2, Z3⟩
 replace c7 := Bool.eq_false_iff.mpr c7; subst c7; replace H := Yf H; obtain rfl := Option.some.inj H; go_enter Tryz.func111, Tryz.ntmps111
 go_wp2_with (first | ((with_reducible refine gate_callee (f := 110) rfl ?_); refine goesL_ (some 5) rfl rfl Tryz.func110 Z0 rfl #[.int .i64 a0, .int .i64 0, .int .i64 7] rfl Z8 ?_; (with_reducible refine (impl_within.calls a0 0 7 false _ A2.out).mono ?_); rintro e w' ⟨rfl, ⟨nd, rfl⟩⟩; refine ⟨_, rfl, ?_⟩) | ((with_reducible refine gate_callee (f := 110) rfl ?_); refine goesL_ (some 8) rfl rfl Tryz.func110 Z0 rfl #[.int .i64 a0, .int .i64 8, .int .i64 15] rfl Z8 ?_; (with_reducible refine (impl_within.calls a0 8 15 false _ A4.out).mono ?_); rintro e w' ⟨rfl, ⟨nd, rfl⟩⟩; refine ⟨_, rfl, ?_⟩) | ((with_reducible refine gate_callee (f := 110) rfl ?_); refine goesL_ (some 11) rfl rfl Tryz.func110 Z0 rfl #[.int .i64 a0, .int .i64 16, .int .i64 47] rfl Z8 ?_; (with_reducible refine (impl_within.calls a0 16 47 false _ A6.out).mono ?_); rintro e w' ⟨rfl, ⟨nd, rfl⟩⟩; refine ⟨_, rfl, ?_⟩))
 go_ret
 exact ⟨Z2, Z3⟩

def impl_BitsOf.f (a0 : Int) : Option (Int) := (impl_WidthOf.f a0).bind fun t120 => (if t120 = 4 then (some ((a0) % 4294967296)) else (if t120 = 5 then (some ((((a0) % 4294967296) + 8) % 4294967296)) else (if t120 = 7 then (some ((((a0) % 4294967296) + 80) % 4294967296)) else (some 0))))
theorem impl_BitsOf.calls (a0 : Int) (r : Int) (w : World) (h : impl_BitsOf.f a0 = some r) :
  Calls Tryz.prog 112 #[.int .i64 a0] w fun e w' => e = .returned (.int .u32 r) ∧ Drawn0 w w' := by
 unfold impl_BitsOf.f at h; have H := h; clear h; replace H := Yd H; obtain ⟨t120, A2, H⟩ := H; (try dsimp only at H); replace H := Yi H; rcases H with ⟨c3, H⟩ | ⟨c3, H⟩
 ·obtain ⟨c3b0, c3b1⟩ := Ye c3; clear c3; obtain rfl := Option.some.inj H; go_enter Tryz.func112, Tryz.ntmps112
  go_wp2_with (first | ((with_reducible refine gate_callee (f := 111) rfl ?_); refine goesL_ (some 4) rfl rfl Tryz.func111 Z0 rfl #[.int .i64 a0] rfl Z8 ?_; (with_reducible refine (impl_WidthOf.calls a0 t120 _ A2.out).mono ?_); rintro e w' ⟨rfl, ⟨nd, rfl⟩⟩; refine ⟨_, rfl, ?_⟩))
  go_ret
  exact ⟨Z2, Z3⟩
 obtain ⟨c3b0, c3b1⟩ := Yn c3; replace H := Yi H; rcases H with ⟨c4, H⟩ | ⟨c4, H⟩
 ·obtain ⟨c4b0, c4b1⟩ := Ye c4; clear c4; obtain rfl := Option.some.inj H; go_enter Tryz.func112, Tryz.ntmps112
  go_wp2_with (first | ((with_reducible refine gate_callee (f := 111) rfl ?_); refine goesL_ (some 4) rfl rfl Tryz.func111 Z0 rfl #[.int .i64 a0] rfl Z8 ?_; (with_reducible refine (impl_WidthOf.calls a0 t120 _ A2.out).mono ?_); rintro e w' ⟨rfl, ⟨nd, rfl⟩⟩; refine ⟨_, rfl, ?_⟩))
  go_ret
  exact ⟨Z2, Z3⟩
 obtain ⟨c4b0, c4b1⟩ := Yn c4; replace H := Yi H; rcases H with ⟨c5, H⟩ | ⟨c5, H⟩
 ·obtain ⟨c5b0, c5b1⟩ := Ye c5; clear c5; obtain rfl := Option.some.inj H; go_enter Tryz.func112, Tryz.ntmps112
  go_wp2_with (first | ((with_reducible refine gate_callee (f := 111) rfl ?_); refine goesL_ (some 4) rfl rfl Tryz.func111 Z0 rfl #[.int .i64 a0] rfl Z8 ?_; (with_reducible refine (impl_WidthOf.calls a0 t120 _ A2.out).mono ?_); rintro e w' ⟨rfl, ⟨nd, rfl⟩⟩; refine ⟨_, rfl, ?_⟩))
  go_ret
  exact ⟨Z2, Z3⟩
 obtain ⟨c5b0, c5b1⟩ := Yn c5; obtain rfl := Option.some.inj H; go_enter Tryz.func112, Tryz.ntmps112
 go_wp2_with (first | ((with_reducible refine gate_callee (f := 111) rfl ?_); refine goesL_ (some 4) rfl rfl Tryz.func111 Z0 rfl #[.int .i64 a0] rfl Z8 ?_; (with_reducible refine (impl_WidthOf.calls a0 t120 _ A2.out).mono ?_); rintro e w' ⟨rfl, ⟨nd, rfl⟩⟩; refine ⟨_, rfl, ?_⟩))
 go_ret
 exact ⟨Z2, Z3⟩

def impl_PackOne.l0 : Nat → ByteArray → Int → Int → Int → Int → Int → Option (Int × Int)
 | 0, _, _, _, _, _, _ => none
 | k + 1, x0, x4, x5, x6, x13, x14 => if x14 < x13 then (if 0 ≤ x14 then (if x14 < (x0.size : Int) then ((impl_LetterOf.f (bt x0 x14)).bind fun t122 => ((impl_WidthOf.f t122).bind fun t123 => (if t123 > x5 then (some (x4, x6)) else ((impl_WidthOf.f t122).bind fun t124 => ((impl_BitsOf.f t122).bind fun t125 => (if 0 ≤ (wrap64 (x5 - t124)) then (impl_PackOne.l0 k x0 (Go.bits .or .u32 x4 (shl .u32 t125 (wrap64 (x5 - t124)))) (wrap64 (x5 - t124)) (wrap64 (x6 + 1)) x13 (wrap64 (x14 + 1))) else (none))))))) else (none)) else (none)) else (some (x4, x6))
def impl_PackOne.f (k : Nat) (a0 : ByteArray) : Option (Int × Int) := (impl_NameOk.f k a0).bind fun t121 => (if t121 = true then (impl_PackOne.l0 k a0 0 28 0 (a0.size : Int) 0) else (some (0, 0)))
theorem impl_PackOne.calls (k : Nat) (a0 : ByteArray) (r1 : Int) (r2 : Int) (w : World) (h : impl_PackOne.f k a0 = some (r1, r2)) :
  Calls Tryz.prog 89 #[.string a0] w fun e w' => e = .returned (.tuple #[.int .u32 r1, .int .i64 r2]) ∧ Drawn0 w w' := by
 unfold impl_PackOne.f at h; have H := h; clear h; replace H := Yd H; obtain ⟨t121, A2, H⟩ := H; (try dsimp only at H); by_cases c3 : t121 = true
 ·subst c3; replace H := Yt H; have H' := Aside0.mk H; clear H; go_enter Tryz.func89, Tryz.ntmps89
  go_wp2_with (first | ((with_reducible refine gate_callee (f := 88) rfl ?_); refine goesL_ (some 10) rfl rfl Tryz.func88 Z0 rfl #[.string a0] rfl Z8 ?_; (with_reducible refine (impl_NameOk.calls k a0 true _ A2.out).mono ?_); rintro e w' ⟨rfl, ⟨nd, rfl⟩⟩; refine ⟨_, rfl, ?_⟩))
  go_loopg [4, 5, 6, 14] k (fun kq v4 v5 v6 v14 w' => ∃ (x4_1 : Int) (x5_1 : Int) (x6_1 : Int) (x14_1 : Int), v4 = .int .u32 x4_1 ∧ v5 = .int .i64 x5_1 ∧ v6 = .int .i64 x6_1 ∧ v14 = .int .i64 x14_1 ∧ Aside0 (impl_PackOne.l0 kq a0 x4_1 x5_1 x6_1 (a0.size : Int) x14_1 = some (r1, r2)) ∧ Aside0 (kq ≤ k) ∧ Drawn0 w w')
  case atStart => exact ⟨(0), (28), (0), (0), Z2, Z2, Z2, Z2, H', ⟨Nat.le_refl _⟩, Z3⟩
  case round =>
   clear H'; (try clear p2); (try clear c3); obtain ⟨x4_1, x5_1, x6_1, x14_1, rfl, rfl, rfl, rfl, HA, HK1, ⟨m1, rfl⟩⟩ := hrel
   cases gk with
   | zero => exact absurd HA.out (by simp [impl_PackOne.l0])
   | succ k1 =>
    have H := HA.out; clear HA; simp only [impl_PackOne.l0] at H; replace H := Yi H; rcases H with ⟨c4, H⟩ | ⟨c4, H⟩
    ·have c4b0 := decide_eq_true c4; clear c4; replace H := Yg H; obtain ⟨c5, H⟩ := H; have c5b0 := decide_eq_true c5; clear c5; replace H := Yg H; obtain ⟨c6, H⟩ := H; have c6b0 := decide_eq_true c6; clear c6; replace H := Yd H; obtain ⟨t122, A8, H⟩ := H; (try dsimp only at H); replace H := Yd H; obtain ⟨t123, A9, H⟩ := H; (try dsimp only at H); replace H := Yi H; rcases H with ⟨c10, H⟩ | ⟨c10, H⟩
     ·have c10b0 : decide (x5_1 < t123) = true := decide_eq_true c10; clear c10; simp only [Option.some.injEq, Prod.mk.injEq] at H; obtain ⟨rfl, rfl⟩ := H; have p7 : 0 ≤ (x14_1 : Int) := of_decide_eq_true Z7; have q7 : x14_1 < (a0.size : Int) := of_decide_eq_true Z7; have hx7 := bt_at a0 x14_1; replace p7 := eq_true p7; replace q7 := eq_true q7
      go_wp2_with (first | ((with_reducible refine gate_callee (f := 109) rfl ?_); refine goesL_ (some 20) rfl rfl Tryz.func109 Z0 rfl #[.int .u8 (bt a0 x14_1)] rfl Z8 ?_; (with_reducible refine (impl_LetterOf.calls (bt a0 x14_1) t122 _ A8.out).mono ?_); rintro e w' ⟨rfl, ⟨nd, rfl⟩⟩; refine ⟨_, rfl, ?_⟩) | ((with_reducible refine gate_callee (f := 111) rfl ?_); refine goesL_ (some 22) rfl rfl Tryz.func111 Z0 rfl #[.int .i64 t122] rfl Z8 ?_; (with_reducible refine (impl_WidthOf.calls t122 t123 _ A9.out).mono ?_); rintro e w' ⟨rfl, ⟨nd, rfl⟩⟩; refine ⟨_, rfl, ?_⟩))
      go_ret2
      exact ⟨Z2, Z3⟩
     have c10b0 : decide (x5_1 < t123) = false := decide_eq_false c10; clear c10; replace H := Yd H; obtain ⟨t124, A11, H⟩ := H; (try dsimp only at H); replace H := Yd H; obtain ⟨t125, A12, H⟩ := H; (try dsimp only at H); obtain ⟨ji13, hji13⟩ : ∃ j_ : Int, (wrap64 (x5_1 - t124)) = j_ := ⟨_, rfl⟩; replace H : (if 0 ≤ (ji13) then (impl_PackOne.l0 k1 a0 (Go.bits .or .u32 x4_1 (shl .u32 t125 (ji13))) ji13 (wrap64 (x6_1 + 1)) (a0.size : Int) (wrap64 (x14_1 + 1))) else (none)) = some (r1, r2) := Z12
     (try rw [hji13] at A8)
     (try rw [hji13] at A9)
     (try rw [hji13] at A11)
     (try rw [hji13] at A12)
     have hji13w : (IntKind.i64.wrap (x5_1 - t124)) = ji13 := (i64_w _).trans hji13; replace H := Yg H; obtain ⟨c14, H⟩ := H; have c14b0 := eq_true c14; have c14b1 := decide_eq_true c14; clear c14; obtain ⟨ji15, hji15⟩ : ∃ j_ : Int, (shl .u32 t125 (ji13)) = j_ := ⟨_, rfl⟩; replace H : (impl_PackOne.l0 k1 a0 (Go.bits .or .u32 x4_1 (ji15)) ji13 (wrap64 (x6_1 + 1)) (a0.size : Int) (wrap64 (x14_1 + 1))) = some (r1, r2) := Z13
     (try rw [hji15] at A8)
     (try rw [hji15] at A9)
     (try rw [hji15] at A11)
     (try rw [hji15] at A12)
     have hji15_ : (IntKind.u32.wrap (t125 * 2 ^ min (ji13).toNat 32)) = ji15 := hji15; have hji15z : (ji13) ≤ 32 → (IntKind.u32.wrap (t125 * 2 ^ (ji13).toNat)) = ji15 := shl_small hji15; have H' := Aside0.mk H; clear H; have p7 : 0 ≤ (x14_1 : Int) := of_decide_eq_true Z7; have q7 : x14_1 < (a0.size : Int) := of_decide_eq_true Z7; have hx7 := bt_at a0 x14_1; replace p7 := eq_true p7; replace q7 := eq_true q7
     go_wp2_with (first | ((with_reducible refine gate_callee (f := 109) rfl ?_); refine goesL_ (some 20) rfl rfl Tryz.func109 Z0 rfl #[.int .u8 (bt a0 x14_1)] rfl Z8 ?_; (with_reducible refine (impl_LetterOf.calls (bt a0 x14_1) t122 _ A8.out).mono ?_); rintro e w' ⟨rfl, ⟨nd, rfl⟩⟩; refine ⟨_, rfl, ?_⟩) | ((with_reducible refine gate_callee (f := 111) rfl ?_); refine goesL_ (some 22) rfl rfl Tryz.func111 Z0 rfl #[.int .i64 t122] rfl Z8 ?_; (with_reducible refine (impl_WidthOf.calls t122 t123 _ A9.out).mono ?_); rintro e w' ⟨rfl, ⟨nd, rfl⟩⟩; refine ⟨_, rfl, ?_⟩) | ((with_reducible refine gate_callee (f := 111) rfl ?_); refine goesL_ (some 27) rfl rfl Tryz.func111 Z0 rfl #[.int .i64 t122] rfl Z8 ?_; (with_reducible refine (impl_WidthOf.calls t122 t124 _ A11.out).mono ?_); rintro e w' ⟨rfl, ⟨nd, rfl⟩⟩; refine ⟨_, rfl, ?_⟩) | ((with_reducible refine gate_callee (f := 112) rfl ?_); refine goesL_ (some 31) rfl rfl Tryz.func112 Z0 rfl #[.int .i64 t122] rfl Z8 ?_; (with_reducible refine (impl_BitsOf.calls t122 t125 _ A12.out).mono ?_); rintro e w' ⟨rfl, ⟨nd, rfl⟩⟩; refine ⟨_, rfl, ?_⟩))
     go_roundg k1
     case measure => have := HK1.out; omega
     case rel => exact ⟨(Go.bits .or .u32 x4_1 (ji15)), (ji13), (wrap64 (x6_1 + 1)), (wrap64 (x14_1 + 1)), (by first | rfl | (simp; done) | (simp only [← hji15] <;> (first | rfl | simp)) | (simp [*]; done)), (by first | rfl | (simp; done) | (simp only [← hji13] <;> (first | rfl | simp)) | (simp [*]; done)), Z2, Z2, H', ⟨Z9⟩, Z3⟩
    have c4b0 := decide_eq_false c4; clear c4; simp only [Option.some.injEq, Prod.mk.injEq] at H; obtain ⟨rfl, rfl⟩ := H
    go_wp2
    go_ret2
    exact ⟨Z2, Z3⟩
 replace c3 := Bool.eq_false_iff.mpr c3; subst c3; replace H := Yf H; simp only [Option.some.injEq, Prod.mk.injEq] at H; obtain ⟨rfl, rfl⟩ := H; go_enter Tryz.func89, Tryz.ntmps89
 go_wp2_with (first | ((with_reducible refine gate_callee (f := 88) rfl ?_); refine goesL_ (some 10) rfl rfl Tryz.func88 Z0 rfl #[.string a0] rfl Z8 ?_; (with_reducible refine (impl_NameOk.calls k a0 false _ A2.out).mono ?_); rintro e w' ⟨rfl, ⟨nd, rfl⟩⟩; refine ⟨_, rfl, ?_⟩))
 go_ret2
 exact ⟨Z2, Z3⟩

def impl_Pack.l0 : Nat → ByteArray → List Int → Option (List Int)
 | 0, _, _ => none
 | k + 1, x0, x3 => (impl_NameOk.f k x0).bind fun t129 => (if t129 = true then ((impl_PackOne.f k x0).bind fun bt130 => (if x3.length < 35184372088832 then (if 0 ≤ bt130.2 then (if bt130.2 ≤ (x0.size : Int) then (impl_Pack.l0 k (x0.extract (bt130.2 : Int).toNat x0.size) (x3 ++ [bt130.1])) else (none)) else (none)) else (none))) else (some x3))
def impl_Pack.f (k : Nat) (a0 : ByteArray) : Option (List Int) := impl_Pack.l0 k a0 (([] : List Int))
theorem impl_Pack.calls (k : Nat) (a0 : ByteArray) (r : List Int) (w : World) (h : impl_Pack.f k a0 = some r) :
  Calls Tryz.prog 53 #[.string a0] w fun e w' => ∃ v0_ : Value, e = .returned (v0_) ∧ Kd.R (Kd.int .u32) 44 w' w.heap.size (fun _ => True) v0_ r ∧ Below w.heap.size w w' := by
 have HB := Z (Below.refl w.heap.size w); unfold impl_Pack.f at h; have H := h; clear h; obtain ⟨y126, hy126⟩ : ∃ y_ : List Int, y_ = (([] : List Int)) := ⟨_, rfl⟩; replace H : (impl_Pack.l0 k a0 y126) = some r := Yy hy126 H; have Ny126 := Aside0.mk hy126; clear hy126; have H' := Aside0.mk H; clear H; go_enter Tryz.func53, Tryz.ntmps53
 go_wp2_with (first | ((with_reducible refine gate_dst (N := 6) rfl ?_); refine Kd.R_lit (Kd.int .u32) _ 44 (by rfl) (N := 6) (by rfl) (xs := ([] : List Int)) (inner := []) (ok := fun _ => True) (okp := fun _ => True) Z4 (Reps.none _ _) (fun _ hk => hk) trivial (Below.refl _ _) (Nat.le_refl _) (by simp) ?_; intro v127 w2 ho3 hb hg_ hnew_; clear hg_ hnew_; (first | rw [← Ny126.out] at ho3 | (simp only [Int.reduceToNat] at ho3; rw [← Ny126.out] at ho3)); have HO128 := Z (Kd.R_lower ho3 (below_size Z90)); replace HB := Z (below_step Z90 hb); clear hb ho3))
 go_loopg [0, 3] k (fun kq v0 v3 w' => ∃ (x0_1 : ByteArray) (x3_1 : List Int), v0 = .string x0_1 ∧ Aside0 (impl_Pack.l0 kq x0_1 x3_1 = some r) ∧ Aside0 (kq ≤ k) ∧ Aside0 (Kd.R (Kd.int .u32) 44 w' w.heap.size (fun _ => True) v3 x3_1) ∧ Aside0 (Below w.heap.size w w'))
 case atStart => exact ⟨(a0), (y126), Z2, H', ⟨Nat.le_refl _⟩, ⟨(Z6 HO128)⟩, ⟨Z90⟩⟩
 case round =>
  clear H'; (try clear p2); obtain ⟨x0_1, x3_1, rfl, HA, HK1, HO_3, HB⟩ := hrel
  cases gk with
  | zero => exact absurd HA.out (by simp [impl_Pack.l0])
  | succ k1 =>
   have H := HA.out; clear HA; simp only [impl_Pack.l0] at H; replace H := Yd H; obtain ⟨t129, A4, H⟩ := H; (try dsimp only at H); by_cases c5 : t129 = true
   ·subst c5; replace H := Yt H; replace H := Yd H; obtain ⟨⟨t130, t131⟩, A6, H⟩ := H; (try dsimp only at H); replace H := Yg H; obtain ⟨c7, H⟩ := H; have LMc7 := Aside0.mk c7; clear c7; obtain ⟨y132, hy132⟩ : ∃ y_ : List Int, y_ = (x3_1 ++ [t130]) := ⟨_, rfl⟩; replace H : (if 0 ≤ t131 then (if t131 ≤ (x0_1.size : Int) then (impl_Pack.l0 k1 (x0_1.extract (t131 : Int).toNat x0_1.size) y132) else (none)) else (none)) = some r := Yy hy132 H; have Ny132 := Aside0.mk hy132; clear hy132; replace H := Yg H; obtain ⟨c8, H⟩ := H; have c8b0 := eq_true c8; have c8b1 := decide_eq_true c8; clear c8; replace H := Yg H; obtain ⟨c9, H⟩ := H; have c9b0 := eq_true c9; have c9b1 := decide_eq_true c9; clear c9; have H' := Aside0.mk H; clear H
    go_wp2_with (first | ((with_reducible refine gate_callee (f := 88) rfl ?_); refine goesL_ (some 8) rfl rfl Tryz.func88 Z0 rfl #[.string x0_1] rfl Z8 ?_; (with_reducible refine (impl_NameOk.calls k1 x0_1 true _ A4.out).mono ?_); rintro e w' ⟨rfl, ⟨nd, rfl⟩⟩; refine ⟨_, rfl, ?_⟩) | ((with_reducible refine gate_callee (f := 89) rfl ?_); refine goesL_ (some 11) rfl rfl Tryz.func89 Z0 rfl #[.string x0_1] rfl Z8 ?_; (with_reducible refine (impl_PackOne.calls k1 x0_1 t130 t131 _ A6.out).mono ?_); rintro e w' ⟨rfl, ⟨nd, rfl⟩⟩; refine ⟨_, rfl, ?_⟩) | ((with_reducible refine gate_builtin (b := .append) (xs := #[.tmp 14, .tmp 16]) rfl ?_); at_builtin; refine Kd.R_append (Kd.int .u32) (w0 := w) w.heap.size rfl (.tmp 14) (.tmp 16) 24 44 (.int .u32 0) 4 rfl Tryz.underlying24 info44 rfl (by decide) (by omega) u3 x3_1 t130 [.int .u32 t130] (fun _ => True) (fun _ => False) rfl rfl ?aP (fun _ hk => hk.elim) ?aF ?aO ?aB ?aS ?aL ?_; (case aP => exact rfl); (case aB => exact Z90); (case aF => exact (fun _ _ => trivial)); (case aO => exact (Z6 HO_3)); (case aS => exact (below_size Z90)); (case aL => have := LMc7.out; omega); intro v133 w10 ho hb hg hat; rw [← Ny132.out] at ho; replace HB := Z (hb); have HO134 := Z (ho); clear HO_3; clear ho hb hg hat))
    go_roundg k1
    case measure => have := HK1.out; omega
    case rel => exact ⟨(x0_1.extract (t131 : Int).toNat x0_1.size), (y132), Z2, H', ⟨Z9⟩, ⟨(Z6 HO134)⟩, ⟨Z90⟩⟩
   replace c5 := Bool.eq_false_iff.mpr c5; subst c5; replace H := Yf H; obtain rfl := Option.some.inj H
   go_wp2_with (first | ((with_reducible refine gate_callee (f := 88) rfl ?_); refine goesL_ (some 8) rfl rfl Tryz.func88 Z0 rfl #[.string x0_1] rfl Z8 ?_; (with_reducible refine (impl_NameOk.calls k1 x0_1 false _ A4.out).mono ?_); rintro e w' ⟨rfl, ⟨nd, rfl⟩⟩; refine ⟨_, rfl, ?_⟩))
   go_ret
   exact ⟨_, Z91, (Z6 HO_3), Z90⟩

def impl_numberCells.f (a0 : Int) (a1 : Bool) (a2 : Int) (a3 : Int) : Option (List Int) := if a1 = true then (if a0 ≥ (-67108864) then (if a0 ≤ 67108863 then (some (([Go.bits .or .u32 (Go.bits .or .u32 ((((a0) % 4294967296) * 32) % 4294967296) 16) a2] : List Int))) else (some (([Go.bits .or .u32 16 a3, (a0) % 4294967296] : List Int)))) else (some (([Go.bits .or .u32 16 a3, (a0) % 4294967296] : List Int)))) else (if a0 ≥ (-67108864) then (if a0 ≤ 67108863 then (some (([Go.bits .or .u32 (Go.bits .or .u32 ((((a0) % 4294967296) * 32) % 4294967296) 0) a2] : List Int))) else (some (([Go.bits .or .u32 0 a3, (a0) % 4294967296] : List Int)))) else (some (([Go.bits .or .u32 0 a3, (a0) % 4294967296] : List Int))))
theorem impl_numberCells.calls (a0 : Int) (a1 : Bool) (a2 : Int) (a3 : Int) (r : List Int) (w : World) (h : impl_numberCells.f a0 a1 a2 a3 = some r) :
  Calls Tryz.prog 54 #[.int .i32 a0, .bool a1, .int .u32 a2, .int .u32 a3] w fun e w' => ∃ v0_ : Value, e = .returned (v0_) ∧ Kd.R (Kd.int .u32) 44 w' w.heap.size (fun _ => True) v0_ r ∧ Below w.heap.size w w' := by
 have HB := Z (Below.refl w.heap.size w); unfold impl_numberCells.f at h; have H := h; clear h; by_cases c5 : a1 = true
 ·subst c5; replace H := Yt H; replace H := Yi H; rcases H with ⟨c6, H⟩ | ⟨c6, H⟩
  ·have c6b0 : decide ((-67108864) ≤ a0) = true := decide_eq_true c6; clear c6; replace H := Yi H; rcases H with ⟨c7, H⟩ | ⟨c7, H⟩
   ·have c7b0 := decide_eq_true c7; clear c7; obtain ⟨y135, hy135⟩ : ∃ y_ : List Int, y_ = (([Go.bits .or .u32 (Go.bits .or .u32 ((((a0) % 4294967296) * 32) % 4294967296) 16) a2] : List Int)) := ⟨_, rfl⟩; replace H : (some y135) = some r := Yy hy135 H; have Ny135 := Aside0.mk hy135; clear hy135; obtain rfl := Option.some.inj H; go_enter Tryz.func54, Tryz.ntmps54
    go_wp2_with (first | ((with_reducible refine gate_dst (N := 24) rfl ?_); refine Kd.R_lit (Kd.int .u32) _ 44 (by rfl) (N := 24) (by rfl) (xs := ([Go.bits .or .u32 (Go.bits .or .u32 ((((a0) % 4294967296) * 32) % 4294967296) 16) a2] : List Int)) (inner := [.int .u32 (Go.bits .or .u32 (Go.bits .or .u32 ((((a0) % 4294967296) * 32) % 4294967296) 16) a2)]) (ok := fun _ => True) (okp := fun _ => True) Z4 (Reps.one (show Kd.M (Kd.int .u32) _ _ _ (Go.bits .or .u32 (Go.bits .or .u32 ((((a0) % 4294967296) * 32) % 4294967296) 16) a2) [.int .u32 (Go.bits .or .u32 (Go.bits .or .u32 ((((a0) % 4294967296) * 32) % 4294967296) 16) a2)] from rfl) (Reps.none _ _)) (fun _ hk => hk) trivial (Below.refl _ _) (Nat.le_refl _) (by simp) ?_; intro v136 w8 ho9 hb hg_ hnew_; clear hg_ hnew_; (first | rw [← Ny135.out] at ho9 | (simp only [Int.reduceToNat] at ho9; rw [← Ny135.out] at ho9)); have HO137 := Z (Kd.R_lower ho9 (below_size Z90)); replace HB := Z (below_step Z90 hb); clear hb ho9))
    go_ret
    exact ⟨_, Z91, (Z6 HO137), Z90⟩
   have c7b0 := decide_eq_false c7; clear c7; obtain ⟨y138, hy138⟩ : ∃ y_ : List Int, y_ = (([Go.bits .or .u32 16 a3, (a0) % 4294967296] : List Int)) := ⟨_, rfl⟩; replace H : (some y138) = some r := Yy hy138 H; have Ny138 := Aside0.mk hy138; clear hy138; obtain rfl := Option.some.inj H; go_enter Tryz.func54, Tryz.ntmps54
   go_wp2_with (first | ((with_reducible refine gate_dst (N := 30) rfl ?_); refine Kd.R_lit (Kd.int .u32) _ 44 (by rfl) (N := 30) (by rfl) (xs := ([Go.bits .or .u32 16 a3, (a0) % 4294967296] : List Int)) (inner := [.int .u32 (Go.bits .or .u32 16 a3), .int .u32 ((a0) % 4294967296)]) (ok := fun _ => True) (okp := fun _ => True) Z4 (Reps.one (show Kd.M (Kd.int .u32) _ _ _ (Go.bits .or .u32 16 a3) [.int .u32 (Go.bits .or .u32 16 a3)] from rfl) (Reps.one (show Kd.M (Kd.int .u32) _ _ _ ((a0) % 4294967296) [.int .u32 ((a0) % 4294967296)] from rfl) (Reps.none _ _))) (fun _ hk => hk) trivial (Below.refl _ _) (Nat.le_refl _) (by simp) ?_; intro v139 w10 ho11 hb hg_ hnew_; clear hg_ hnew_; (first | rw [← Ny138.out] at ho11 | (simp only [Int.reduceToNat] at ho11; rw [← Ny138.out] at ho11)); have HO140 := Z (Kd.R_lower ho11 (below_size Z90)); replace HB := Z (below_step Z90 hb); clear hb ho11))
   go_ret
   exact ⟨_, Z91, (Z6 HO140), Z90⟩
  have c6b0 : decide ((-67108864) ≤ a0) = false := decide_eq_false c6; clear c6; obtain ⟨y141, hy141⟩ : ∃ y_ : List Int, y_ = (([Go.bits .or .u32 16 a3, (a0) % 4294967296] : List Int)) := ⟨_, rfl⟩; replace H : (some y141) = some r := Yy hy141 H; have Ny141 := Aside0.mk hy141; clear hy141; obtain rfl := Option.some.inj H; go_enter Tryz.func54, Tryz.ntmps54
  go_wp2_with (first | ((with_reducible refine gate_dst (N := 30) rfl ?_); refine Kd.R_lit (Kd.int .u32) _ 44 (by rfl) (N := 30) (by rfl) (xs := ([Go.bits .or .u32 16 a3, (a0) % 4294967296] : List Int)) (inner := [.int .u32 (Go.bits .or .u32 16 a3), .int .u32 ((a0) % 4294967296)]) (ok := fun _ => True) (okp := fun _ => True) Z4 (Reps.one (show Kd.M (Kd.int .u32) _ _ _ (Go.bits .or .u32 16 a3) [.int .u32 (Go.bits .or .u32 16 a3)] from rfl) (Reps.one (show Kd.M (Kd.int .u32) _ _ _ ((a0) % 4294967296) [.int .u32 ((a0) % 4294967296)] from rfl) (Reps.none _ _))) (fun _ hk => hk) trivial (Below.refl _ _) (Nat.le_refl _) (by simp) ?_; intro v142 w12 ho13 hb hg_ hnew_; clear hg_ hnew_; (first | rw [← Ny141.out] at ho13 | (simp only [Int.reduceToNat] at ho13; rw [← Ny141.out] at ho13)); have HO143 := Z (Kd.R_lower ho13 (below_size Z90)); replace HB := Z (below_step Z90 hb); clear hb ho13))
  go_ret
  exact ⟨_, Z91, (Z6 HO143), Z90⟩
 replace c5 := Bool.eq_false_iff.mpr c5; subst c5; replace H := Yf H; replace H := Yi H; rcases H with ⟨c14, H⟩ | ⟨c14, H⟩
 ·have c14b0 : decide ((-67108864) ≤ a0) = true := decide_eq_true c14; clear c14; replace H := Yi H; rcases H with ⟨c15, H⟩ | ⟨c15, H⟩
  ·have c15b0 := decide_eq_true c15; clear c15; obtain ⟨y144, hy144⟩ : ∃ y_ : List Int, y_ = (([Go.bits .or .u32 (Go.bits .or .u32 ((((a0) % 4294967296) * 32) % 4294967296) 0) a2] : List Int)) := ⟨_, rfl⟩; replace H : (some y144) = some r := Yy hy144 H; have Ny144 := Aside0.mk hy144; clear hy144; obtain rfl := Option.some.inj H; go_enter Tryz.func54, Tryz.ntmps54
   go_wp2_with (first | ((with_reducible refine gate_dst (N := 24) rfl ?_); refine Kd.R_lit (Kd.int .u32) _ 44 (by rfl) (N := 24) (by rfl) (xs := ([Go.bits .or .u32 (Go.bits .or .u32 ((((a0) % 4294967296) * 32) % 4294967296) 0) a2] : List Int)) (inner := [.int .u32 (Go.bits .or .u32 (Go.bits .or .u32 ((((a0) % 4294967296) * 32) % 4294967296) 0) a2)]) (ok := fun _ => True) (okp := fun _ => True) Z4 (Reps.one (show Kd.M (Kd.int .u32) _ _ _ (Go.bits .or .u32 (Go.bits .or .u32 ((((a0) % 4294967296) * 32) % 4294967296) 0) a2) [.int .u32 (Go.bits .or .u32 (Go.bits .or .u32 ((((a0) % 4294967296) * 32) % 4294967296) 0) a2)] from rfl) (Reps.none _ _)) (fun _ hk => hk) trivial (Below.refl _ _) (Nat.le_refl _) (by simp) ?_; intro v145 w16 ho17 hb hg_ hnew_; clear hg_ hnew_; (first | rw [← Ny144.out] at ho17 | (simp only [Int.reduceToNat] at ho17; rw [← Ny144.out] at ho17)); have HO146 := Z (Kd.R_lower ho17 (below_size Z90)); replace HB := Z (below_step Z90 hb); clear hb ho17))
   go_ret
   exact ⟨_, Z91, (Z6 HO146), Z90⟩
  have c15b0 := decide_eq_false c15; clear c15; obtain ⟨y147, hy147⟩ : ∃ y_ : List Int, y_ = (([Go.bits .or .u32 0 a3, (a0) % 4294967296] : List Int)) := ⟨_, rfl⟩; replace H : (some y147) = some r := Yy hy147 H; have Ny147 := Aside0.mk hy147; clear hy147; obtain rfl := Option.some.inj H; go_enter Tryz.func54, Tryz.ntmps54
  go_wp2_with (first | ((with_reducible refine gate_dst (N := 30) rfl ?_); refine Kd.R_lit (Kd.int .u32) _ 44 (by rfl) (N := 30) (by rfl) (xs := ([Go.bits .or .u32 0 a3, (a0) % 4294967296] : List Int)) (inner := [.int .u32 (Go.bits .or .u32 0 a3), .int .u32 ((a0) % 4294967296)]) (ok := fun _ => True) (okp := fun _ => True) Z4 (Reps.one (show Kd.M (Kd.int .u32) _ _ _ (Go.bits .or .u32 0 a3) [.int .u32 (Go.bits .or .u32 0 a3)] from rfl) (Reps.one (show Kd.M (Kd.int .u32) _ _ _ ((a0) % 4294967296) [.int .u32 ((a0) % 4294967296)] from rfl) (Reps.none _ _))) (fun _ hk => hk) trivial (Below.refl _ _) (Nat.le_refl _) (by simp) ?_; intro v148 w18 ho19 hb hg_ hnew_; clear hg_ hnew_; (first | rw [← Ny147.out] at ho19 | (simp only [Int.reduceToNat] at ho19; rw [← Ny147.out] at ho19)); have HO149 := Z (Kd.R_lower ho19 (below_size Z90)); replace HB := Z (below_step Z90 hb); clear hb ho19))
  go_ret
  exact ⟨_, Z91, (Z6 HO149), Z90⟩
 have c14b0 : decide ((-67108864) ≤ a0) = false := decide_eq_false c14; clear c14; obtain ⟨y150, hy150⟩ : ∃ y_ : List Int, y_ = (([Go.bits .or .u32 0 a3, (a0) % 4294967296] : List Int)) := ⟨_, rfl⟩; replace H : (some y150) = some r := Yy hy150 H; have Ny150 := Aside0.mk hy150; clear hy150; obtain rfl := Option.some.inj H; go_enter Tryz.func54, Tryz.ntmps54
 go_wp2_with (first | ((with_reducible refine gate_dst (N := 30) rfl ?_); refine Kd.R_lit (Kd.int .u32) _ 44 (by rfl) (N := 30) (by rfl) (xs := ([Go.bits .or .u32 0 a3, (a0) % 4294967296] : List Int)) (inner := [.int .u32 (Go.bits .or .u32 0 a3), .int .u32 ((a0) % 4294967296)]) (ok := fun _ => True) (okp := fun _ => True) Z4 (Reps.one (show Kd.M (Kd.int .u32) _ _ _ (Go.bits .or .u32 0 a3) [.int .u32 (Go.bits .or .u32 0 a3)] from rfl) (Reps.one (show Kd.M (Kd.int .u32) _ _ _ ((a0) % 4294967296) [.int .u32 ((a0) % 4294967296)] from rfl) (Reps.none _ _))) (fun _ hk => hk) trivial (Below.refl _ _) (Nat.le_refl _) (by simp) ?_; intro v151 w20 ho21 hb hg_ hnew_; clear hg_ hnew_; (first | rw [← Ny150.out] at ho21 | (simp only [Int.reduceToNat] at ho21; rw [← Ny150.out] at ho21)); have HO152 := Z (Kd.R_lower ho21 (below_size Z90)); replace HB := Z (below_step Z90 hb); clear hb ho21))
 go_ret
 exact ⟨_, Z91, (Z6 HO152), Z90⟩

attribute [local go_sem high] eqA46
mutual
def impl_CellsOf.j0 : Nat → Int → Bool → Int → ByteArray → Int → Bool → Int → Option (List Int)
 | 0, _, _, _, _, _, _, _ => none
 | k + 1, x3, x11, x154000, x154001, x154002, x154003, x154004 => if x11 = true then ((impl_Pack.f k x154001).bind fun t158 => (impl_CellsOf.l0 k x3 (([] : List Int)) t158 (t158.length : Int) 0)) else (if (x154000 == 7 && (x154001.toList == ([] : List UInt8) && (x154004 == 0))) = true then ((impl_numberCells.f x154002 x154003 8 2).bind fun t165 => (some t165)) else (if (x154000 == 8 && (x154001.toList == ([] : List UInt8) && (x154004 == 0))) = true then ((impl_numberCells.f x154002 x154003 6 5).bind fun t168 => (some t168)) else (if (x154000 == 9 && (!x154003 && (x154004 == 0))) = true then ((impl_Pack.f k x154001).bind fun t171 => (if (t171.length : Int) = 1 then (if 0 < (t171.length : Int) then (some (([Go.bits .or .u32 (((rd t171 0) * 16) % 4294967296) 12, (x154002) % 4294967296] : List Int))) else (none)) else (some ([] : List Int)))) else (if (x154000 == 0 && (x154001.toList == ([] : List UInt8) && (x154002 == 0 && (!x154003)))) = true then (some (([x154004] : List Int))) else (some ([] : List Int))))))
def impl_CellsOf.l0 : Nat → Int → List Int → List Int → Int → Int → Option (List Int)
 | 0, _, _, _, _, _ => none
 | k + 1, x3, x4, x26, x27, x28 => if x28 < x27 then (if 0 ≤ x28 then (if x28 < (x26.length : Int) then (if x4.length < 35184372088832 then (impl_CellsOf.l0 k 0 (x4 ++ [Go.bits .or .u32 (((rd x26 x28) * 16) % 4294967296) x3]) x26 x27 (wrap64 (x28 + 1))) else (none)) else (none)) else (none)) else (some x4)
end
def impl_CellsOf.f (k : Nat) (a0_0 : Int) (a0_1 : ByteArray) (a0_2 : Int) (a0_3 : Bool) (a0_4 : Int) : Option (List Int) := (impl_nameTag.f a0_0).bind fun t154 => (if t154 > 0 then (impl_CellsOf.j0 k t154 (a0_2 == 0 && (!a0_3 && (a0_4 == 0))) a0_0 a0_1 a0_2 a0_3 a0_4) else (impl_CellsOf.j0 k t154 false a0_0 a0_1 a0_2 a0_3 a0_4))
def impl_CellsOf.T18 : Bool × List (List Nat × List Nat) := (true, [([], []), ([0], [0]), ([1], [1]), ([2], [2]), ([3], [3]), ([], []), ([5], [5]), ([6], [6]), ([4, 7], [4, 7]), ([8, 0, 1, 2, 3, 4, 5, 6, 7, 8], [8])])
def impl_CellsOf.B18 : List Nat := [0, 1, 3, 7, 15, 0, 32, 96, 255, 511]
theorem impl_CellsOf.tab18 : rtab .any (opsOf Tryz.f27 18) = impl_CellsOf.T18 := Z0
theorem impl_CellsOf.bits18 : waitsOk impl_CellsOf.T18.2 impl_CellsOf.B18 = true := Z0
theorem impl_CellsOf.calls (k : Nat) (a0_0 : Int) (a0_1 : ByteArray) (a0_2 : Int) (a0_3 : Bool) (a0_4 : Int) (r : List Int) (w : World) (h : impl_CellsOf.f k a0_0 a0_1 a0_2 a0_3 a0_4 = some r) :
  Calls Tryz.prog 27 #[.agg #[.int .i64 a0_0, .string a0_1, .int .i32 a0_2, .bool a0_3, .int .u32 a0_4]] w fun e w' => ∃ v0_ : Value, e = .returned (v0_) ∧ Kd.R (Kd.int .u32) 44 w' w.heap.size (fun _ => True) v0_ r ∧ Below w.heap.size w w' := by
 have hu46 := Tryz.underlying46; have HB := Z (Below.refl w.heap.size w); unfold impl_CellsOf.f at h; have H := h; clear h; replace H := Yd H; obtain ⟨t154, A2, H⟩ := H; (try dsimp only at H); have HC3 := Aside0.mk H; clear H; go_enter Tryz.func27, Tryz.ntmps27
 go_upto_region 2 with (first | ((with_reducible refine gate_dst (N := 1) rfl ?_); refine box_event (by rfl) (N := 1) (by rfl) (cs := #[.int .i64 a0_0, .string a0_1, .int .i32 a0_2, .bool a0_3, .int .u32 a0_4]) (t := 46) Z4 ?_; intro gb153 hg w4 hbox hb; have BK153 := Z (hbox); have GW153 := Z ((Z124 : w.heap.size ≤ gb153)); have GE153 := Z ((Z124 : w.heap.size ≤ gb153)); replace HB := Z (below_step Z90 hb); clear hb hbox hg; have hcz5 := Yb5 BK153.out) | ((with_reducible refine gate_callee (f := 52) rfl ?_); refine goesL_ (some 10) rfl rfl Tryz.func52 Z0 rfl #[.int .i64 a0_0] rfl Z8 ?_; (with_reducible refine (impl_nameTag.calls a0_0 t154 _ A2.out).mono ?_); rintro e w' ⟨rfl, ⟨nd, rfl⟩⟩; refine ⟨_, rfl, ?_⟩))
 (try simp only [Act.put, List.setIfInBounds_toArray, List.set_cons_zero, List.set_cons_succ])
 go_cut [11] (fun v11 wc => ∃ (kq : Nat) (x11_2 : Bool), v11 = .bool x11_2 ∧ Aside0 (impl_CellsOf.j0 kq t154 x11_2 a0_0 a0_1 a0_2 a0_3 a0_4 = some r) ∧ Aside0 (kq ≤ k) ∧ Aside0 (wc.heap[gb153]? = some (.cells #[.int .i64 a0_0, .string a0_1, .int .i32 a0_2, .bool a0_3, .int .u32 a0_4] 46 (0, 0))) ∧ Aside0 (Below w.heap.size w wc))
 case first =>
  have H := HC3.out; clear HC3; replace H := Yi H; rcases H with ⟨c6, H⟩ | ⟨c6, H⟩
  ·have c6b0 : decide (0 < t154) = true := decide_eq_true c6; clear c6
   (first | rw [c6b0] | (simp only [i64_w, i32_w]; rw [c6b0]) | skip)
   have H' := Aside0.mk H; clear H; have hcz7 := Yb5 BK153.out
   go_wp2
   go_meet
   case rel => exact ⟨_, ((a0_2 == 0 && (!a0_3 && (a0_4 == 0)))), Z2, H', ⟨Z14⟩, ⟨(Z15 BK153)⟩, ⟨Z90⟩⟩
  have c6b0 : decide (0 < t154) = false := decide_eq_false c6; clear c6
  (first | rw [c6b0] | (simp only [i64_w, i32_w]; rw [c6b0]) | skip)
  have H' := Aside0.mk H; clear H
  go_wp2
  go_meet
  case rel => exact ⟨_, (false), Z2, H', ⟨Z14⟩, ⟨(Z15 BK153)⟩, ⟨Z90⟩⟩
 case rest =>
  clear HC3; (try clear c2); (try clear p2); (try clear c5); (try clear c6); (try clear c6b0); (try clear hcz5); (try clear hcz7); obtain ⟨kq, x11_2, rfl, HA, HJ2, BK153, HB⟩ := hcut
  cases kq with
  | zero => exact absurd HA.out (by simp [impl_CellsOf.j0])
  | succ kj2 =>
   have H := HA.out; clear HA; simp only [impl_CellsOf.j0] at H; by_cases c8 : x11_2 = true
   ·subst c8; replace H := Yt H; obtain ⟨y155, hy155⟩ : ∃ y_ : List Int, y_ = (([] : List Int)) := ⟨_, rfl⟩; replace H : ((impl_Pack.f kj2 a0_1).bind fun t158 => (impl_CellsOf.l0 kj2 t154 y155 t158 (t158.length : Int) 0)) = some r := Yy hy155 H; have Ny155 := Aside0.mk hy155; clear hy155; replace H := Yd H; obtain ⟨t158, A9, H⟩ := H; (try dsimp only at H); have H' := Aside0.mk H; clear H
    go_wp2_with (first | ((with_reducible refine gate_dst (N := 23) rfl ?_); refine Kd.R_lit (Kd.int .u32) _ 44 (by rfl) (N := 23) (by rfl) (xs := ([] : List Int)) (inner := []) (ok := fun _ => True) (okp := fun _ => True) Z4 (Reps.none _ _) (fun _ hk => hk) trivial (Below.refl _ _) (Nat.le_refl _) (by simp) ?_; intro v156 w10 ho11 hb hg_ hnew_; clear hg_ hnew_; (first | rw [← Ny155.out] at ho11 | (simp only [Int.reduceToNat] at ho11; rw [← Ny155.out] at ho11)); have HO157 := Z (Kd.R_lower ho11 (below_size Z90)); replace BK153 := Z (Yk BK153 hb); replace HB := Z (below_step Z90 hb); clear hb ho11; have hcz12 := Yb5 BK153.out) | ((with_reducible refine gate_callee (f := 53) rfl ?_); refine goesL_ (some 26) rfl rfl Tryz.func53 Z0 rfl #[.string a0_1] rfl Z8 ?_; (with_reducible refine (impl_Pack.calls kj2 a0_1 t158 _ A9.out).mono ?_); rintro e w13 ⟨v159, rfl, ho0, hb⟩; refine ⟨_, rfl, ?_⟩; have HO160 := Z (Kd.R_lower (Kd.R_new' ho0 (Kd.R_lt (Z6 HO157))) (below_size Z90)); replace HO157 := Z (Kd.R_elder' (Z6 HO157) (Kd.R_base ho0) hb); replace BK153 := Z (Yk BK153 hb); replace HB := Z (below_step Z90 hb); (try clear hb); (try clear hb2); (try clear hk); (try clear hi); (try clear ho0); obtain ⟨Ao14, co14, eo14⟩ := Kd.R_slice HO160.out; subst eo14))
    go_loopg [3, 4, 28] kj2 (fun kq v3 v4 v28 w' => ∃ (x3_2 : Int) (x4_2 : List Int) (x28_2 : Int), v3 = .int .u32 x3_2 ∧ v28 = .int .i64 x28_2 ∧ Aside0 (impl_CellsOf.l0 kq x3_2 x4_2 t158 (t158.length : Int) x28_2 = some r) ∧ Aside0 (kq ≤ kj2) ∧ Aside0 (Kd.R (Kd.int .u32) 44 w' w.heap.size (fun k_ => some k_ ≠ ((.slice Ao14 t158.length co14) : Value).ownBlock) v4 x4_2) ∧ Aside0 (Kd.R (Kd.int .u32) 44 w' w.heap.size (fun k_ => some k_ ≠ (v4 : Value).ownBlock) (.slice Ao14 t158.length co14) t158) ∧ Aside0 (w'.heap[gb153]? = some (.cells #[.int .i64 a0_0, .string a0_1, .int .i32 a0_2, .bool a0_3, .int .u32 a0_4] 46 (0, 0))) ∧ Aside0 (Below w.heap.size w w'))
    case atStart => exact ⟨(t154), (y155), (0), Z2, Z2, H', ⟨Nat.le_refl _⟩, ⟨(Z16 HO157)⟩, ⟨(Z16 HO160)⟩, ⟨(Z15 BK153)⟩, ⟨Z90⟩⟩
    case round =>
     clear H'; (try clear c2); (try clear p2); (try clear c5); (try clear c6); (try clear c6b0); (try clear c8); (try clear hcz12); (try clear hcz5); (try clear hcz7); (try clear p2); obtain ⟨x3_2, x4_2, x28_2, rfl, rfl, HA, HK2, HO_4, HO_26, BK153, HB⟩ := hrel
     cases gk with
     | zero => exact absurd HA.out (by simp [impl_CellsOf.l0])
     | succ k2 =>
      have H := HA.out; clear HA; simp only [impl_CellsOf.l0] at H; replace H := Yi H; rcases H with ⟨c15, H⟩ | ⟨c15, H⟩
      ·have c15b0 := decide_eq_true c15; clear c15; replace H := Yg H; obtain ⟨c16, H⟩ := H; have c16b0 := decide_eq_true c16; clear c16; replace H := Yg H; obtain ⟨c17, H⟩ := H; have c17b0 := decide_eq_true c17; clear c17; replace H := Yg H; obtain ⟨c18, H⟩ := H; have LMc18 := Aside0.mk c18; clear c18; obtain ⟨y162, hy162⟩ : ∃ y_ : List Int, y_ = (x4_2 ++ [Go.bits .or .u32 (((rd t158 x28_2) * 16) % 4294967296) x3_2]) := ⟨_, rfl⟩; replace H : (impl_CellsOf.l0 k2 0 y162 t158 (t158.length : Int) (wrap64 (x28_2 + 1))) = some r := Yy hy162 H; have Ny162 := Aside0.mk hy162; clear hy162; have H' := Aside0.mk H; clear H; have p161 : 0 ≤ (x28_2 : Int) := of_decide_eq_true Z7; have q161 : x28_2 < (t158.length : Int) := of_decide_eq_true Z7; obtain ⟨ad161, e161, hx161_0⟩ := Kd.at_int (Kd.R_reads' HO_26.out).2.2 x28_2 p161 q161
       cases e161
       replace p161 := eq_true p161; replace q161 := eq_true q161
       go_wp2_with (first | ((with_reducible refine gate_builtin (b := .append) (xs := #[.tmp 32, .tmp 37]) rfl ?_); at_builtin; refine Kd.R_append (Kd.int .u32) (w0 := w) w.heap.size rfl (.tmp 32) (.tmp 37) 24 44 (.int .u32 0) 4 rfl Tryz.underlying24 info44 rfl (by decide) (by omega) u4 x4_2 (Go.bits .or .u32 (((rd t158 x28_2) * 16) % 4294967296) x3_2) [.int .u32 (Go.bits .or .u32 (((rd t158 x28_2) * 16) % 4294967296) x3_2)] (fun k_ => some k_ ≠ (.slice (some ad161) t158.length co14 : Value).ownBlock) (fun _ => False) rfl rfl ?aP (fun _ hk => hk.elim) ?aF ?aO ?aB ?aS ?aL ?_; (case aP => exact rfl); (case aB => exact Z90); (case aF => exact (fun k_ hk => Kd.fresh' (Kd.R_lt (Z6 HO_26)) k_ hk)); (case aO => exact (Z6 HO_4)); (case aS => exact (below_size Z90)); (case aL => have := LMc18.out; omega); intro v163 w19 ho hb hg hat; rw [← Ny162.out] at ho; replace HO_26 := Z (Kd.R_after (ok := (fun _ => True)) (by (with_reducible repeat (first | apply Kd.R_alloc | apply Kd.R_drewN | apply Kd.R_drew)); exact Kd.R_mono HO_26.out (fun _ hk => ⟨trivial, hk⟩)) hg hat); replace BK153 := Z (blk_grown (g := gb153) (o := .cells #[.int .i64 a0_0, .string a0_1, .int .i32 a0_2, .bool a0_3, .int .u32 a0_4] 46 (0, 0)) (Z15 BK153) hg (Kd.R_ne HO_4.out BK153.out (by decide))); replace HB := Z (hb); have HO164 := Z (ho); clear HO_4; clear ho hb hg hat))
       go_roundg k2
       case measure => have := HJ2.out; have := HK2.out; omega
       case rel => exact ⟨(0), (y162), (wrap64 (x28_2 + 1)), Z2, Z2, H', ⟨by have := HJ2.out; have := HK2.out; omega⟩, ⟨(Z6 HO164)⟩, ⟨(Z16 HO_26)⟩, ⟨(Z15 BK153)⟩, ⟨Z90⟩⟩
      have c15b0 := decide_eq_false c15; clear c15; obtain rfl := Option.some.inj H
      go_wp2
      go_ret
      exact ⟨_, Z91, (Z17 HO_4), Z90⟩
   replace c8 := Bool.eq_false_iff.mpr c8; subst c8; replace H := Yf H; replace H := Yi H; rcases H with ⟨c20, H⟩ | ⟨c20, H⟩
   ·have c20b0 : (a0_0 == 7 && (a0_1.toList == ([] : List UInt8) && (a0_4 == 0))) = true := c20
    (try (have c20b1 : (a0_0 == 7 && (a0_1.toList.isEmpty && (a0_4 == 0))) = true := by have h_ : (a0_0 == 7 && (a0_1.toList == ([] : List UInt8) && (a0_4 == 0))) = true := c20; simpa only [List.beq_nil_eq] using h_))
    (try (have c20b2 : decide (a0_0 = 7 && (a0_1.toList == ([] : List UInt8) && (a0_4 == 0))) = true := Z18))
    (try (have c20b3 : (a0_0 == 7 && (a0_1.toList == ([] : List UInt8) && (a0_4 == 0))) = true := Z18))
    clear c20; replace H := Yd H; obtain ⟨t165, A21, H⟩ := H; (try dsimp only at H); obtain rfl := Option.some.inj H; have hcz22 := Yb5 BK153.out
    go_wp2_with (first | ((with_reducible refine gate_callee (f := 54) rfl ?_); refine goesL_ (some 53) rfl rfl Tryz.func54 Z0 rfl #[.int .i32 a0_2, .bool a0_3, .int .u32 8, .int .u32 2] rfl Z8 ?_; (with_reducible refine (impl_numberCells.calls a0_2 a0_3 8 2 t165 _ A21.out).mono ?_); rintro e w23 ⟨v166, rfl, ho0, hb⟩; refine ⟨_, rfl, ?_⟩; have HO167 := Z (Kd.R_lower ho0 (below_size Z90)); replace BK153 := Z (Yk BK153 hb); replace HB := Z (below_step Z90 hb); (try clear hb); (try clear hb2); (try clear hk); (try clear hi); (try clear ho0)))
    go_ret
    exact ⟨_, Z91, (Z6 HO167), Z90⟩
   have c20b0 : (a0_0 == 7 && (a0_1.toList == ([] : List UInt8) && (a0_4 == 0))) = false := Z18
   (try (have c20b1 : (a0_0 == 7 && (a0_1.toList.isEmpty && (a0_4 == 0))) = false := by have h_ : (a0_0 == 7 && (a0_1.toList == ([] : List UInt8) && (a0_4 == 0))) = false := Z18; simpa only [List.beq_nil_eq] using h_))
   (try (have c20b2 : decide (a0_0 = 7 && (a0_1.toList == ([] : List UInt8) && (a0_4 == 0))) = false := Z18))
   (try (have c20b3 : (a0_0 == 7 && (a0_1.toList == ([] : List UInt8) && (a0_4 == 0))) = false := Z18))
   (try (have c20b4 : ¬ (a0_0 = 7 && (a0_1.toList == ([] : List UInt8) && (a0_4 == 0))) := Z18))
   clear c20; replace H := Yi H; rcases H with ⟨c24, H⟩ | ⟨c24, H⟩
   ·have c24b0 : (a0_0 == 8 && (a0_1.toList == ([] : List UInt8) && (a0_4 == 0))) = true := c24
    (try (have c24b1 : (a0_0 == 8 && (a0_1.toList.isEmpty && (a0_4 == 0))) = true := by have h_ : (a0_0 == 8 && (a0_1.toList == ([] : List UInt8) && (a0_4 == 0))) = true := c24; simpa only [List.beq_nil_eq] using h_))
    (try (have c24b2 : decide (a0_0 = 8 && (a0_1.toList == ([] : List UInt8) && (a0_4 == 0))) = true := Z19))
    (try (have c24b3 : (a0_0 == 8 && (a0_1.toList == ([] : List UInt8) && (a0_4 == 0))) = true := Z19))
    clear c24; replace H := Yd H; obtain ⟨t168, A25, H⟩ := H; (try dsimp only at H); obtain rfl := Option.some.inj H; have hcz26 := Yb5 BK153.out
    go_wp2_with (first | ((with_reducible refine gate_callee (f := 54) rfl ?_); refine goesL_ (some 66) rfl rfl Tryz.func54 Z0 rfl #[.int .i32 a0_2, .bool a0_3, .int .u32 6, .int .u32 5] rfl Z8 ?_; (with_reducible refine (impl_numberCells.calls a0_2 a0_3 6 5 t168 _ A25.out).mono ?_); rintro e w27 ⟨v169, rfl, ho0, hb⟩; refine ⟨_, rfl, ?_⟩; have HO170 := Z (Kd.R_lower ho0 (below_size Z90)); replace BK153 := Z (Yk BK153 hb); replace HB := Z (below_step Z90 hb); (try clear hb); (try clear hb2); (try clear hk); (try clear hi); (try clear ho0)))
    go_ret
    exact ⟨_, Z91, (Z6 HO170), Z90⟩
   have c24b0 : (a0_0 == 8 && (a0_1.toList == ([] : List UInt8) && (a0_4 == 0))) = false := Z19
   (try (have c24b1 : (a0_0 == 8 && (a0_1.toList.isEmpty && (a0_4 == 0))) = false := by have h_ : (a0_0 == 8 && (a0_1.toList == ([] : List UInt8) && (a0_4 == 0))) = false := Z19; simpa only [List.beq_nil_eq] using h_))
   (try (have c24b2 : decide (a0_0 = 8 && (a0_1.toList == ([] : List UInt8) && (a0_4 == 0))) = false := Z19))
   (try (have c24b3 : (a0_0 == 8 && (a0_1.toList == ([] : List UInt8) && (a0_4 == 0))) = false := Z19))
   (try (have c24b4 : ¬ (a0_0 = 8 && (a0_1.toList == ([] : List UInt8) && (a0_4 == 0))) := Z19))
   clear c24; replace H := Yi H; rcases H with ⟨c28, H⟩ | ⟨c28, H⟩
   ·have c28b0 : (a0_0 == 9 && (!a0_3 && (a0_4 == 0))) = true := c28
    (try (have c28b1 : decide (a0_0 = 9 && (!a0_3 && (a0_4 == 0))) = true := by simpa using c28))
    (try (have c28b2 : (a0_0 == 9 && (!a0_3 && (a0_4 == 0))) = true := by simpa using c28))
    clear c28; replace H := Yd H; obtain ⟨t171, A29, H⟩ := H; (try dsimp only at H); replace H := Yi H; rcases H with ⟨c30, H⟩ | ⟨c30, H⟩
    ·obtain ⟨c30b0, c30b1⟩ := Ye c30; clear c30; replace H := Yg H; obtain ⟨c31, H⟩ := H; have c31b0 := decide_eq_true c31; have c31b1 : decide (0 < t171.length) = true := decide_eq_true (by omega); clear c31; obtain ⟨y175, hy175⟩ : ∃ y_ : List Int, y_ = (([Go.bits .or .u32 (((rd t171 0) * 16) % 4294967296) 12, (a0_2) % 4294967296] : List Int)) := ⟨_, rfl⟩; replace H : (some y175) = some r := Yy hy175 H; have Ny175 := Aside0.mk hy175; clear hy175; obtain rfl := Option.some.inj H; have hcz32 := Yb5 BK153.out
     try go_wp2_with (first | ((with_reducible refine gate_callee (f := 53) rfl ?_); refine goesL_ (some 77) rfl rfl Tryz.func53 Z0 rfl #[.string a0_1] rfl Z8 ?_; (with_reducible refine (impl_Pack.calls kj2 a0_1 t171 _ A29.out).mono ?_); rintro e w33 ⟨v172, rfl, ho0, hb⟩; refine ⟨_, rfl, ?_⟩; have HO173 := Z (Kd.R_lower ho0 (below_size Z90)); replace BK153 := Z (Yk BK153 hb); replace HB := Z (below_step Z90 hb); (try clear hb); (try clear hb2); (try clear hk); (try clear hi); (try clear ho0); obtain ⟨Ao34, co34, eo34⟩ := Kd.R_slice HO173.out; subst eo34))
     have n0_ := Z (Kd.R_drew HO173.out); have n1_ := Z (blk_drew BK153.out); have n2_ := Z (below_drew1 HB.out); clear HO173; clear BK153; clear HB; have HO173 := n0_; have BK153 := n1_; have HB := n2_; clear n0_ n1_ n2_; have p174 : 0 ≤ (0 : Int) := (by omega); have q174 : 0 < (t171.length : Int) := of_decide_eq_true Z7; obtain ⟨ad174, e174, hx174_0⟩ := Kd.at_int (Kd.R_reads' HO173.out).2.2 0 p174 q174
     cases e174
     have qi174 : (0 < t171.length) = True := eq_true (by omega)
     (try rw [show ((0 : Int)).toNat = 0 from rfl] at hx174_0)
     (try rw [Addr.add_zero'] at hx174_0)
     replace p174 := eq_true p174; replace q174 := eq_true q174; refine start_ (n := 10) (S := fun w' => w'.cell? ⟨gb153, 0, none⟩ = some (.int .i64 a0_0) ∧ w'.cell? ⟨gb153, 1, none⟩ = some (.string a0_1) ∧ w'.cell? ⟨gb153, 2, none⟩ = some (.int .i32 a0_2) ∧ w'.cell? ⟨gb153, 3, none⟩ = some (.bool a0_3) ∧ w'.cell? ⟨gb153, 4, none⟩ = some (.int .u32 a0_4) ∧ w'.cell? ad174 = some (.int .u32 (rd t171 0))) (ds := []) #[false, false, false, false, false, false, false, false, false, false] Z0 rfl rfl ⟨(blk_cell BK153.out 0).trans rfl, (blk_cell BK153.out 1).trans rfl, (blk_cell BK153.out 2).trans rfl, (blk_cell BK153.out 3).trans rfl, (blk_cell BK153.out 4).trans rfl, hx174_0⟩ (fun hHeld => ?_); refine with_tabW impl_CellsOf.tab18 impl_CellsOf.bits18 (fun HT_ HW_ => ?_)
     generalize w33.drew = w35 at HO173 BK153 HB hx174_0 hHeld ⊢; refine pure_ (i := 0) (N := some 81) (v := ?_) (a' := ?_) #[true, false, false, false, false, false, false, false, false, false] rfl rfl (any_of HT_.out Z0) (fun _ _ _ h => h) (Or.inl ⟨by rfl, ?_⟩) ?_ ?_
     rotate_left
     ·intro w'
      go_simp
      with_reducible rfl
     rotate_left
     ·simp only [Act.put, List.setIfInBounds_toArray, List.set_cons_zero, List.set_cons_succ, i64_w, i32_w]
      rfl
     refine pure_ (i := 1) (N := some 82) (v := ?_) (a' := ?_) #[true, true, false, false, false, false, false, false, false, false] rfl rfl (any_of HT_.out Z0) (fun _ _ _ h => h) (Or.inl ⟨by rfl, ?_⟩) ?_ ?_
     rotate_left
     ·intro w'
      go_simp
      with_reducible rfl
     rotate_left
     ·simp only [Act.put, List.setIfInBounds_toArray, List.set_cons_zero, List.set_cons_succ, i64_w, i32_w]
      rfl
     refine pure_ (i := 5) (N := some 86) (v := ?_) (a' := ?_) #[true, true, false, false, false, true, false, false, false, false] rfl rfl (any_of HT_.out Z0) (fun _ _ _ h => h) (Or.inl ⟨by rfl, ?_⟩) ?_ ?_
     rotate_left
     ·intro w'
      go_simp
      with_reducible rfl
     rotate_left
     ·simp only [Act.put, List.setIfInBounds_toArray, List.set_cons_zero, List.set_cons_succ, i64_w, i32_w]
      rfl
     refine take_ (i := 2) (N := some 83) (v := ?_) (a' := ?_) #[true, true, true, false, false, true, false, false, false, false] rfl rfl (take_ofW HT_.out HW_.out Z0) (fun _ _ _ h => h) (Or.inl ⟨by rfl, ?_⟩) hHeld ?_ ?_
     rotate_left
     ·rintro w' ⟨s0, s1, s2, s3, s4, s5⟩
      go_simp
      with_reducible rfl
     rotate_left
     ·simp only [Act.put, List.setIfInBounds_toArray, List.set_cons_zero, List.set_cons_succ, i64_w, i32_w]
      rfl
     refine pure_ (i := 3) (N := some 84) (v := ?_) (a' := ?_) #[true, true, true, true, false, true, false, false, false, false] rfl rfl (any_of HT_.out Z0) (fun _ _ _ h => h) (Or.inl ⟨by rfl, ?_⟩) ?_ ?_
     rotate_left
     ·intro w'
      go_simp
      with_reducible rfl
     rotate_left
     ·simp only [Act.put, List.setIfInBounds_toArray, List.set_cons_zero, List.set_cons_succ, i64_w, i32_w]
      rfl
     refine pure_ (i := 4) (N := some 85) (v := ?_) (a' := ?_) #[true, true, true, true, true, true, false, false, false, false] rfl rfl (any_of HT_.out Z0) (fun _ _ _ h => h) (Or.inl ⟨by rfl, ?_⟩) ?_ ?_
     rotate_left
     ·intro w'
      go_simp
      with_reducible rfl
     rotate_left
     ·simp only [Act.put, List.setIfInBounds_toArray, List.set_cons_zero, List.set_cons_succ, i64_w, i32_w]
      rfl
     refine take_ (i := 6) (N := some 87) (v := ?_) (a' := ?_) #[true, true, true, true, true, true, true, false, false, false] rfl rfl (take_ofW HT_.out HW_.out Z0) (fun _ _ _ h => h) (Or.inl ⟨by rfl, ?_⟩) hHeld ?_ ?_
     rotate_left
     ·rintro w' ⟨s0, s1, s2, s3, s4, s5⟩
      go_simp
      with_reducible rfl
     rotate_left
     ·simp only [Act.put, List.setIfInBounds_toArray, List.set_cons_zero, List.set_cons_succ, i64_w, i32_w]
      rfl
     refine pure_ (i := 7) (N := some 88) (v := ?_) (a' := ?_) #[true, true, true, true, true, true, true, true, false, false] rfl rfl (any_of HT_.out Z0) (fun _ _ _ h => h) (Or.inl ⟨by rfl, ?_⟩) ?_ ?_
     rotate_left
     ·intro w'
      go_simp
      with_reducible rfl
     rotate_left
     ·simp only [Act.put, List.setIfInBounds_toArray, List.set_cons_zero, List.set_cons_succ, i64_w, i32_w]
      rfl
     refine one_ (i := 8) (N := some 89) #[true, true, true, true, true, true, true, true, true, false] rfl rfl (one_of HT_.out Z0) (by decide) (fun K hK => ?_)
     refine Kd.R_lit_step (Kd.int .u32) _ 44 ?hg (N := 89) ?hd (xs := ([Go.bits .or .u32 (((rd t171 0) * 16) % 4294967296) 12, (a0_2) % 4294967296] : List Int)) (inner := [.int .u32 (Go.bits .or .u32 (((rd t171 0) * 16) % 4294967296) 12), .int .u32 ((a0_2) % 4294967296)]) (ok := fun _ => True) (okp := fun _ => True) ?hr ?hp (fun _ hk => hk) trivial (Below.refl _ _) (Nat.le_refl _) (by simp) ?_; (case hd => rfl); (case hg => rfl); (case hr => exact Z4); (case hp => exact (Reps.one (show Kd.M (Kd.int .u32) _ _ _ (Go.bits .or .u32 (((rd t171 0) * 16) % 4294967296) 12) [.int .u32 (Go.bits .or .u32 (((rd t171 0) * 16) % 4294967296) 12)] from rfl) (Reps.one (show Kd.M (Kd.int .u32) _ _ _ ((a0_2) % 4294967296) [.int .u32 ((a0_2) % 4294967296)] from rfl) (Reps.none _ _))))
     intro v176 w36 ho37 hb hg_ hnew_; have HS5_ := (hb.cell (World.block_lt_of_cell? _ _ (hHeld.2.2.2.2.2))).trans (hHeld.2.2.2.2.2); clear hg_ hnew_
     (first | rw [← Ny175.out] at ho37 | (simp only [Int.reduceToNat] at ho37; rw [← Ny175.out] at ho37))
     have n0_ := Z (Kd.R_elder' (Z6 HO173) (Kd.R_base ho37) hb); have n1_ := Z (Kd.R_lower (Kd.R_new' ho37 (Kd.R_lt (Z6 HO173))) (below_size Z90)); have n2_ := Z (Yk BK153 hb); have n3_ := Z (below_step Z90 hb); clear HO173; clear BK153; clear HB; have HO173 := n0_; have HO177 := n1_; have BK153 := n2_; have HB := n3_; clear n0_ n1_ n2_ n3_; clear hb ho37; refine hK.out _ _ ⟨(blk_cell BK153.out 0).trans rfl, (blk_cell BK153.out 1).trans rfl, (blk_cell BK153.out 2).trans rfl, (blk_cell BK153.out 3).trans rfl, (blk_cell BK153.out 4).trans rfl, HS5_⟩ (fun hHeld => ?_)
     clear hK K; refine norm_ (a' := ?_) ?_ ?_
     rotate_left
     ·show Act.put _ (some 89) _ = _
      simp only [Act.put, List.setIfInBounds_toArray, List.set_cons_zero, List.set_cons_succ, i64_w, i32_w]
      rfl
     refine pure_ (i := 9) (N := some 2) (v := ?_) (a' := ?_) #[true, true, true, true, true, true, true, true, true, true] rfl rfl (any_of HT_.out Z0) (fun _ _ _ h => h) (Or.inl ⟨by rfl, ?_⟩) ?_ ?_
     rotate_left
     ·intro w'
      go_simp
      with_reducible rfl
     rotate_left
     ·simp only [Act.put, List.setIfInBounds_toArray, List.set_cons_zero, List.set_cons_succ, i64_w, i32_w]
      rfl
     refine done_ (done_of HT_.out Z0) ?_
     try go_wp2
     go_ret
     exact ⟨_, Z91, (Z17 HO177), Z90⟩
    obtain ⟨c30b0, c30b1⟩ := Yn c30; obtain rfl := Option.some.inj H; have hcz38 := Yb5 BK153.out
    go_wp2_with (first | ((with_reducible refine gate_callee (f := 53) rfl ?_); refine goesL_ (some 77) rfl rfl Tryz.func53 Z0 rfl #[.string a0_1] rfl Z8 ?_; (with_reducible refine (impl_Pack.calls kj2 a0_1 t171 _ A29.out).mono ?_); rintro e w39 ⟨v172, rfl, ho0, hb⟩; refine ⟨_, rfl, ?_⟩; have HO173 := Z (Kd.R_lower ho0 (below_size Z90)); replace BK153 := Z (Yk BK153 hb); replace HB := Z (below_step Z90 hb); (try clear hb); (try clear hb2); (try clear hk); (try clear hi); (try clear ho0); obtain ⟨Ao40, co40, eo40⟩ := Kd.R_slice HO173.out; subst eo40))
    go_ret
    exact ⟨_, Z91, Z20, Z90⟩
   have c28b0 : (a0_0 == 9 && (!a0_3 && (a0_4 == 0))) = false := by simpa using c28
   (try (have c28b1 : decide (a0_0 = 9 && (!a0_3 && (a0_4 == 0))) = false := by simpa using c28))
   (try (have c28b2 : (a0_0 == 9 && (!a0_3 && (a0_4 == 0))) = false := by simpa using c28))
   (try (have c28b3 : ¬ (a0_0 = 9 && (!a0_3 && (a0_4 == 0))) := by simpa using c28))
   clear c28; replace H := Yi H; rcases H with ⟨c41, H⟩ | ⟨c41, H⟩
   ·have c41b0 : (a0_0 == 0 && (a0_1.toList == ([] : List UInt8) && (a0_2 == 0 && (!a0_3)))) = true := c41
    (try (have c41b1 : (a0_0 == 0 && (a0_1.toList.isEmpty && (a0_2 == 0 && (!a0_3)))) = true := by have h_ : (a0_0 == 0 && (a0_1.toList == ([] : List UInt8) && (a0_2 == 0 && (!a0_3)))) = true := c41; simpa only [List.beq_nil_eq] using h_))
    (try (have c41b2 : decide (a0_0 = 0 && (a0_1.toList == ([] : List UInt8) && (a0_2 == 0 && (!a0_3)))) = true := Z21))
    (try (have c41b3 : (a0_0 == 0 && (a0_1.toList == ([] : List UInt8) && (a0_2 == 0 && (!a0_3)))) = true := Z21))
    clear c41; obtain ⟨y178, hy178⟩ : ∃ y_ : List Int, y_ = (([a0_4] : List Int)) := ⟨_, rfl⟩; replace H : (some y178) = some r := Yy hy178 H; have Ny178 := Aside0.mk hy178; clear hy178; obtain rfl := Option.some.inj H; have hcz42 := Yb5 BK153.out
    go_wp2_with (first | ((with_reducible refine gate_dst (N := 98) rfl ?_); refine Kd.R_lit (Kd.int .u32) _ 44 (by rfl) (N := 98) (by rfl) (xs := ([a0_4] : List Int)) (inner := [.int .u32 a0_4]) (ok := fun _ => True) (okp := fun _ => True) Z4 (Reps.one (show Kd.M (Kd.int .u32) _ _ _ a0_4 [.int .u32 a0_4] from rfl) (Reps.none _ _)) (fun _ hk => hk) trivial (Below.refl _ _) (Nat.le_refl _) (by simp) ?_; intro v179 w43 ho44 hb hg_ hnew_; clear hg_ hnew_; (first | rw [← Ny178.out] at ho44 | (simp only [Int.reduceToNat] at ho44; rw [← Ny178.out] at ho44)); have HO180 := Z (Kd.R_lower ho44 (below_size Z90)); replace BK153 := Z (Yk BK153 hb); replace HB := Z (below_step Z90 hb); clear hb ho44))
    go_ret
    exact ⟨_, Z91, (Z6 HO180), Z90⟩
   have c41b0 : (a0_0 == 0 && (a0_1.toList == ([] : List UInt8) && (a0_2 == 0 && (!a0_3)))) = false := Z21
   (try (have c41b1 : (a0_0 == 0 && (a0_1.toList.isEmpty && (a0_2 == 0 && (!a0_3)))) = false := by have h_ : (a0_0 == 0 && (a0_1.toList == ([] : List UInt8) && (a0_2 == 0 && (!a0_3)))) = false := Z21; simpa only [List.beq_nil_eq] using h_))
   (try (have c41b2 : decide (a0_0 = 0 && (a0_1.toList == ([] : List UInt8) && (a0_2 == 0 && (!a0_3)))) = false := Z21))
   (try (have c41b3 : (a0_0 == 0 && (a0_1.toList == ([] : List UInt8) && (a0_2 == 0 && (!a0_3)))) = false := Z21))
   (try (have c41b4 : ¬ (a0_0 = 0 && (a0_1.toList == ([] : List UInt8) && (a0_2 == 0 && (!a0_3)))) := Z21))
   clear c41; obtain rfl := Option.some.inj H; have hcz45 := Yb5 BK153.out
   go_wp2
   go_ret
   exact ⟨_, Z91, Z20, Z90⟩

def impl_ItemOk.f (k : Nat) (a0_0 : Int) (a0_1 : ByteArray) (a0_2 : Int) (a0_3 : Bool) (a0_4 : Int) : Option (Bool) := (impl_CellsOf.f k a0_0 a0_1 a0_2 a0_3 a0_4).bind fun t182 => (some (decide ((t182.length : Int) > 0)))
theorem impl_ItemOk.calls (k : Nat) (a0_0 : Int) (a0_1 : ByteArray) (a0_2 : Int) (a0_3 : Bool) (a0_4 : Int) (r : Bool) (w : World) (h : impl_ItemOk.f k a0_0 a0_1 a0_2 a0_3 a0_4 = some r) :
  Calls Tryz.prog 44 #[.agg #[.int .i64 a0_0, .string a0_1, .int .i32 a0_2, .bool a0_3, .int .u32 a0_4]] w fun e w' => e = .returned (.bool r) ∧ Below w.heap.size w w' := by
 have hu46 := Tryz.underlying46; have HB := Z (Below.refl w.heap.size w); unfold impl_ItemOk.f at h; have H := h; clear h; replace H := Yd H; obtain ⟨t182, A2, H⟩ := H; (try dsimp only at H); obtain rfl := Option.some.inj H; go_enter Tryz.func44, Tryz.ntmps44
 go_wp2_with (first | ((with_reducible refine gate_dst (N := 1) rfl ?_); refine box_event (by rfl) (N := 1) (by rfl) (cs := #[.int .i64 a0_0, .string a0_1, .int .i32 a0_2, .bool a0_3, .int .u32 a0_4]) (t := 46) Z4 ?_; intro gb181 hg w3 hbox hb; have BK181 := Z (hbox); have GW181 := Z ((Z124 : w.heap.size ≤ gb181)); have GE181 := Z ((Z124 : w.heap.size ≤ gb181)); replace HB := Z (below_step Z90 hb); clear hb hbox hg; have hcz4 := Yb5 BK181.out) | ((with_reducible refine gate_callee (f := 27) rfl ?_); refine goesL_ (some 4) rfl rfl Tryz.func27 Z0 rfl #[.agg #[.int .i64 a0_0, .string a0_1, .int .i32 a0_2, .bool a0_3, .int .u32 a0_4]] rfl Z8 ?_; (with_reducible refine (impl_CellsOf.calls k a0_0 a0_1 a0_2 a0_3 a0_4 t182 _ A2.out).mono ?_); rintro e w5 ⟨v183, rfl, ho0, hb⟩; refine ⟨_, rfl, ?_⟩; have HO184 := Z (Kd.R_lower ho0 (below_size Z90)); replace BK181 := Z (Yk BK181 hb); replace HB := Z (below_step Z90 hb); (try clear hb); (try clear hb2); (try clear hk); (try clear hi); (try clear ho0); obtain ⟨Ao6, co6, eo6⟩ := Kd.R_slice HO184.out; subst eo6))
 go_ret
 exact ⟨Z91, Z90⟩

def impl_HexText.f (a0 : Int) : Option (ByteArray) := if 0 ≤ a0 ∧ a0 < 4294967296 then some ⟨(Hex.hexL a0.toNat).toArray⟩ else none
theorem impl_HexText.calls (a0 : Int) (r : ByteArray) (w : World) (h : impl_HexText.f a0 = some r) (HT0 : Aside0 (Itoa.Tab w)) :
  Calls Tryz.prog 45 #[.int .u32 a0] w fun e w' => e = .returned (.string r) ∧ Below w.heap.size w w' := by
 unfold impl_HexText.f at h
 split at h
 case isFalse => cases h
 rename_i hb
 obtain rfl := Option.some.inj h; obtain ⟨u, rfl⟩ := Int.eq_ofNat_of_zero_le hb.1; exact Hex.hexText u (by omega) w HT0.out.2

def impl_DecText.f (a0 : Int) : Option (ByteArray) := if -9223372036854775808 ≤ a0 ∧ a0 ≤ 9223372036854775807 then some ⟨(Lib.itoa a0).toArray⟩ else none
set_option maxHeartbeats 1000000 in
set_option maxRecDepth 100000 in
theorem impl_DecText.calls (a0 : Int) (r : ByteArray) (w : World) (h : impl_DecText.f a0 = some r) (HT0 : Aside0 (Itoa.Tab w)) :
  Calls Tryz.prog 78 #[.int .i64 a0] w fun e w' => e = .returned (.string r) ∧ Below w.heap.size w w' := by
 unfold impl_DecText.f at h
 split at h
 case isFalse => cases h
 rename_i hb
 exact Itoa.decText a0 r (Option.some.inj h) hb.1 hb.2 w HT0.out

def impl_digits.f (a0 : Int) (a1 : Bool) : Option (ByteArray) := if a1 = true then ((impl_HexText.f ((a0) % 4294967296)).bind fun t185 => (if 1 + t185.size ≤ 9223372036854775807 then (some ((⟨#[36]⟩ : ByteArray) ++ t185)) else (none))) else ((impl_DecText.f (wrap64 (a0))).bind fun t186 => (if 1 + t186.size ≤ 9223372036854775807 then (some ((⟨#[35]⟩ : ByteArray) ++ t186)) else (none)))
theorem impl_digits.calls (a0 : Int) (a1 : Bool) (r : ByteArray) (w : World) (h : impl_digits.f a0 a1 = some r) (HT0 : Aside0 (Itoa.Tab w)) :
  Calls Tryz.prog 46 #[.int .i32 a0, .bool a1] w fun e w' => e = .returned (.string r) ∧ Below w.heap.size w w' := by
 have HB := Z (Below.refl w.heap.size w); unfold impl_digits.f at h; have H := h; clear h; by_cases c3 : a1 = true
 ·subst c3; replace H := Yt H; replace H := Yd H; obtain ⟨t185, A4, H⟩ := H; (try dsimp only at H); replace H := Yg H; obtain ⟨c5, H⟩ := H; have c5b0 := eq_true c5; have c5b1 := decide_eq_true c5
  try have c5b2 : (9223372036854775807 < 1 + t185.size) = False := eq_false (Nat.not_lt.2 c5)
  obtain rfl := Option.some.inj H; go_enter Tryz.func46, Tryz.ntmps46
  go_wp2_with (first | ((with_reducible refine gate_callee (f := 45) rfl ?_); refine goesL_ (some 8) rfl rfl Tryz.func45 Z0 rfl #[.int .u32 ((a0) % 4294967296)] rfl Z8 ?_; (with_reducible refine (impl_HexText.calls ((a0) % 4294967296) t185 _ A4.out ⟨Itoa.tab_at HT0.out Z92⟩).mono ?_); rintro e w6 ⟨rfl, hb⟩; refine ⟨_, rfl, ?_⟩; replace HB := Z (below_step Z90 hb); (try clear hb); (try clear hb2); (try clear hk); (try clear hi)))
  go_ret
  exact ⟨Z91, Z90⟩
 replace c3 := Bool.eq_false_iff.mpr c3; subst c3; replace H := Yf H; replace H := Yd H; obtain ⟨t186, A7, H⟩ := H; (try dsimp only at H); replace H := Yg H; obtain ⟨c8, H⟩ := H; have c8b0 := eq_true c8; have c8b1 := decide_eq_true c8
 try have c8b2 : (9223372036854775807 < 1 + t186.size) = False := eq_false (Nat.not_lt.2 c8)
 obtain rfl := Option.some.inj H; go_enter Tryz.func46, Tryz.ntmps46
 go_wp2_with (first | ((with_reducible refine gate_callee (f := 78) rfl ?_); refine goesL_ (some 12) rfl rfl Tryz.func78 Z0 rfl #[.int .i64 (wrap64 (a0))] rfl Z8 ?_; (with_reducible refine (impl_DecText.calls (wrap64 (a0)) t186 _ A7.out ⟨Itoa.tab_at HT0.out Z92⟩).mono ?_); rintro e w9 ⟨rfl, hb⟩; refine ⟨_, rfl, ?_⟩; replace HB := Z (below_step Z90 hb); (try clear hb); (try clear hb2); (try clear hk); (try clear hi)))
 go_ret
 exact ⟨Z91, Z90⟩

def impl_mark.f (a0 : Int) : Option (ByteArray) := if a0 = 1 then (some (⟨#[126]⟩ : ByteArray)) else (if a0 = 2 then (some (⟨#[58]⟩ : ByteArray)) else (if a0 = 3 then (some (⟨#[61]⟩ : ByteArray)) else (if a0 = 4 then (some (⟨#[34]⟩ : ByteArray)) else (if a0 = 5 then (some (⟨#[94]⟩ : ByteArray)) else (if a0 = 6 then (some (⟨#[95]⟩ : ByteArray)) else (some (⟨#[]⟩ : ByteArray)))))))
theorem impl_mark.calls (a0 : Int) (r : ByteArray) (w : World) (h : impl_mark.f a0 = some r) :
  Calls Tryz.prog 47 #[.int .i64 a0] w fun e w' => e = .returned (.string r) ∧ Drawn0 w w' := by
 unfold impl_mark.f at h; have H := h; clear h; replace H := Yi H; rcases H with ⟨c2, H⟩ | ⟨c2, H⟩
 ·obtain ⟨c2b0, c2b1⟩ := Ye c2; clear c2; obtain rfl := Option.some.inj H; go_enter Tryz.func47, Tryz.ntmps47
  go_wp2
  go_ret
  exact ⟨Z2, Z3⟩
 obtain ⟨c2b0, c2b1⟩ := Yn c2; replace H := Yi H; rcases H with ⟨c3, H⟩ | ⟨c3, H⟩
 ·obtain ⟨c3b0, c3b1⟩ := Ye c3; clear c3; obtain rfl := Option.some.inj H; go_enter Tryz.func47, Tryz.ntmps47
  go_wp2
  go_ret
  exact ⟨Z2, Z3⟩
 obtain ⟨c3b0, c3b1⟩ := Yn c3; replace H := Yi H; rcases H with ⟨c4, H⟩ | ⟨c4, H⟩
 ·obtain ⟨c4b0, c4b1⟩ := Ye c4; clear c4; obtain rfl := Option.some.inj H; go_enter Tryz.func47, Tryz.ntmps47
  go_wp2
  go_ret
  exact ⟨Z2, Z3⟩
 obtain ⟨c4b0, c4b1⟩ := Yn c4; replace H := Yi H; rcases H with ⟨c5, H⟩ | ⟨c5, H⟩
 ·obtain ⟨c5b0, c5b1⟩ := Ye c5; clear c5; obtain rfl := Option.some.inj H; go_enter Tryz.func47, Tryz.ntmps47
  go_wp2
  go_ret
  exact ⟨Z2, Z3⟩
 obtain ⟨c5b0, c5b1⟩ := Yn c5; replace H := Yi H; rcases H with ⟨c6, H⟩ | ⟨c6, H⟩
 ·obtain ⟨c6b0, c6b1⟩ := Ye c6; clear c6; obtain rfl := Option.some.inj H; go_enter Tryz.func47, Tryz.ntmps47
  go_wp2
  go_ret
  exact ⟨Z2, Z3⟩
 obtain ⟨c6b0, c6b1⟩ := Yn c6; replace H := Yi H; rcases H with ⟨c7, H⟩ | ⟨c7, H⟩
 ·obtain ⟨c7b0, c7b1⟩ := Ye c7; clear c7; obtain rfl := Option.some.inj H; go_enter Tryz.func47, Tryz.ntmps47
  go_wp2
  go_ret
  exact ⟨Z2, Z3⟩
 obtain ⟨c7b0, c7b1⟩ := Yn c7; obtain rfl := Option.some.inj H; go_enter Tryz.func47, Tryz.ntmps47
 go_wp2
 go_ret
 exact ⟨Z2, Z3⟩

end Go.Proofs.YtfjmpdcflnaogaaGreatDoor.QFnExactImport
