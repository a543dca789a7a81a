/-
Plain functions for the Go functions that a law reaches, each with a proof that the translation's call comes to just that; no conditions beyond those written in each.
-/
import Derived.Test.YtfjmpdcflnaogaaGreatDoorSFnNotes
import Derived.Test.YtfjmpdcflnaogaaGreatDoorQFnNotesx1
import Derived.Test.YtfjmpdcflnaogaaGreatDoorQFnNotesx8
import Derived.Test.YtfjmpdcflnaogaaGreatDoorQFnNotesx2
namespace Go.Proofs.YtfjmpdcflnaogaaGreatDoor.QFnNotes
open Go.RowKit Go.Proofs.YtfjmpdcflnaogaaGreatDoorW.PrintWords Go.Proofs.YtfjmpdcflnaogaaGreatDoorW.PrintLast Go.Proofs.YtfjmpdcflnaogaaGreatDoorW.PrintMore
attribute [local go_sem] max2_int min2_int max_two min_two max_three min_three max_four min_four   -- for this text's walks alone
set_option linter.unusedVariables false
set_option maxHeartbeats 8000000
set_option maxRecDepth 100000
set_option linter.unusedSimpArgs false

theorem Yk9 {X W w1 : World} {g : Nat} {o : Obj} (h : Aside0 (X.heap[g]? = some o)) (hb : Below W.heap.size W w1) (e : X.heap[g]? = some o → W.heap[g]? = some o := by intro h_; repeat (first | (with_reducible exact h_) | (with_reducible first | refine blk_drewN ?_ _ | refine blk_drew ?_ | refine blk_alloc ?_ _) | refine blk_far ?_ (Aside0.out (by assumption)) _ | exact h_)) : w1.heap[g]? = some o := blk_below (e h.out) hb
def spec_Unpack.l0 : Nat → List Int → ByteArray → Int → Option (ByteArray × Bool)
 | 0, _, _, _ => none
 | k + 1, x0, x4, x5 => if x5 < (x0.length : Int) then (if 0 ≤ x5 then ((spec_UnpackOne.f k (rd x0 x5)).bind fun t676 => (if x4.size + t676.size ≤ 9223372036854775807 then (spec_Unpack.l0 k x0 (x4 ++ t676) (wrap64 (x5 + 1))) else (none))) else (none)) else ((spec_NameOk.f k x4).bind fun t677 => (if t677 = true then ((spec_Pack.f k x4).bind fun t678 => ((spec_l03Same.f k t678 x0).bind fun t681 => (if t681 = true then (some (x4, true)) else (some ((⟨#[]⟩ : ByteArray), false))))) else (some ((⟨#[]⟩ : ByteArray), false))))
def spec_Unpack.f (k : Nat) (l0 : List Int) : Option (ByteArray × Bool) := if (l0.length : Int) > 24 then (some ((⟨#[]⟩ : ByteArray), false)) else (spec_Unpack.l0 k l0 (⟨#[]⟩ : ByteArray) 0)
theorem spec_Unpack.calls (k : Nat) (A0 : Option Addr) (c0 : Nat) (l0 : List Int) (r1 : ByteArray) (r2 : Bool) (w : World) (hr0 : Kd.C (Kd.int .u32) w A0 l0.length l0) (hc0 : l0.length ≤ c0) (h : spec_Unpack.f k l0 = some (r1, r2)) :
  Calls Tryz.prog 113 #[.slice A0 l0.length c0] w fun e w' => e = .returned (.tuple #[.string r1, .bool r2]) ∧ Below w.heap.size w w' := by
 have HR0 := Aside0.mk hr0; have HC0 := Aside0.mk hc0; clear hr0 hc0; have HB := Z (Below.refl w.heap.size w); unfold spec_Unpack.f at h; have H := h; clear h; replace H := Yi H; rcases H with ⟨c2, H⟩ | ⟨c2, H⟩
 ·have c2b0 : decide (24 < (l0.length : Int)) = true := decide_eq_true c2; have c2b1 : decide (24 < l0.length) = true := decide_eq_true (by omega); clear c2; simp only [Option.some.injEq, Prod.mk.injEq] at H; obtain ⟨rfl, rfl⟩ := H; go_enter Tryz.func113, Tryz.ntmps113
  go_wp2
  go_ret2
  exact ⟨Z76, Z75⟩
 have c2b0 : decide (24 < (l0.length : Int)) = false := decide_eq_false c2; have c2b1 : decide (24 < l0.length) = false := decide_eq_false (by omega); clear c2; have H' := Aside0.mk H; clear H; go_enter Tryz.func113, Tryz.ntmps113
 go_wp2
 go_loopg [4, 5] k (fun kq v4 v5 w' => ∃ (x4_1 : ByteArray) (x5_1 : Int), v4 = .string x4_1 ∧ v5 = .int .i64 x5_1 ∧ Aside0 (spec_Unpack.l0 kq l0 x4_1 x5_1 = some (r1, r2)) ∧ Aside0 (kq ≤ k) ∧ Aside0 (Below w.heap.size w w'))
 case atStart => exact ⟨((⟨#[]⟩ : ByteArray)), (0), Z2, Z2, H', ⟨Nat.le_refl _⟩, ⟨Z75⟩⟩
 case round =>
  clear H'; (try clear c1); (try clear c2); (try clear c2b0); (try clear c2b1); (try clear p2); obtain ⟨x4_1, x5_1, rfl, rfl, HA, HK1, HB⟩ := hrel
  cases gk with
  | zero => exact absurd HA.out (by simp [spec_Unpack.l0])
  | succ k1 =>
   have H := HA.out; clear HA; simp only [spec_Unpack.l0] at H; replace H := Yi H; rcases H with ⟨c3, H⟩ | ⟨c3, H⟩
   ·have c3b0 := decide_eq_true c3; clear c3; replace H := Yg H; obtain ⟨c4, H⟩ := H; have c4b0 := decide_eq_true c4; clear c4; replace H := Yd H; obtain ⟨t676, A5, H⟩ := H; (try dsimp only at H); replace H := Yg H; obtain ⟨c6, H⟩ := H; have c6b0 := eq_true c6; have c6b1 := decide_eq_true c6
    try have c6b2 : (9223372036854775807 < x4_1.size + t676.size) = False := eq_false (Nat.not_lt.2 c6)
    have H' := Aside0.mk H; clear H; have p675 : 0 ≤ (x5_1 : Int) := of_decide_eq_true Z5; have q675 : x5_1 < (l0.length : Int) := of_decide_eq_true Z5; obtain ⟨ad675, e675, hx675_0⟩ := Kd.at_int HR0.out x5_1 p675 q675
    cases e675
    replace hx675_0 := Yh HB.out hx675_0; replace p675 := eq_true p675; replace q675 := eq_true q675
    go_wp2_with (first | ((with_reducible refine gate_callee (f := 94) rfl ?_); refine goesL_ (some 20) rfl rfl Tryz.func94 Z0 rfl #[.int .u32 (rd l0 x5_1)] rfl Z10 ?_; (with_reducible refine (spec_UnpackOne.calls k1 (rd l0 x5_1) t676 _ A5.out).mono ?_); rintro e w7 ⟨rfl, hb⟩; refine ⟨_, rfl, ?_⟩; replace HB := Z (below_step Z75 hb); (try clear hb); (try clear hb2); (try clear hk); (try clear hi)))
    go_roundg k1
    case measure => have := HK1.out; omega
    case rel => exact ⟨(x4_1 ++ t676), (wrap64 (x5_1 + 1)), Z2, Z2, H', ⟨Z6⟩, ⟨Z75⟩⟩
   have c3b0 := decide_eq_false c3; clear c3; replace H := Yd H; obtain ⟨t677, A8, H⟩ := H; (try dsimp only at H); by_cases c9 : t677 = true
   ·subst c9; replace H := Yt H; replace H := Yd H; obtain ⟨t678, A10, H⟩ := H; (try dsimp only at H); replace H := Yd H; obtain ⟨t681, A11, H⟩ := H; (try dsimp only at H); by_cases c12 : t681 = true
    ·subst c12; replace H := Yt H; simp only [Option.some.injEq, Prod.mk.injEq] at H; obtain ⟨rfl, rfl⟩ := H
     go_wp2_with (first | ((with_reducible refine gate_callee (f := 118) rfl ?_); refine goesL_ (some 23) rfl rfl Tryz.func118 Z0 rfl #[.string x4_1] rfl Z10 ?_; (with_reducible refine (spec_NameOk.calls k1 x4_1 true _ A8.out).mono ?_); rintro e w' ⟨rfl, ⟨nd, rfl⟩⟩; refine ⟨_, rfl, ?_⟩) | (go_at_call 97; (with_reducible refine (spec_Pack.calls k1 x4_1 t678 _ A10.out).mono ?_); rintro e w13 ⟨v679, rfl, ho0, hb⟩; have HO680 := Z (Kd.R_lower ho0 (below_size Z75)); replace HB := Z (below_step Z75 hb); (try clear hb); (try clear hb2); (try clear hk); (try clear hi); (try clear ho0); obtain ⟨Ao14, co14, eo14⟩ := Kd.R_slice HO680.out; subst eo14) | (go_at_call 136; (with_reducible refine (spec_l03Same.calls k1 _ _ t678 _ _ l0 true _ ?side1 ?side2 ?side3 ?side4 A11.out).mono ?_); (case side1 => exact (Z16 HO680)); (case side2 => exact (Kd.R_reads' HO680.out).2.1); (case side3 => exact (Z29 HR0)); (case side4 => exact HC0.out); rintro e w' ⟨rfl, ⟨nd, rfl⟩⟩))
     go_ret2
     exact ⟨Z76, Z75⟩
    replace c12 := Bool.eq_false_iff.mpr c12; subst c12; replace H := Yf H; simp only [Option.some.injEq, Prod.mk.injEq] at H; obtain ⟨rfl, rfl⟩ := H
    go_wp2_with (first | ((with_reducible refine gate_callee (f := 118) rfl ?_); refine goesL_ (some 23) rfl rfl Tryz.func118 Z0 rfl #[.string x4_1] rfl Z10 ?_; (with_reducible refine (spec_NameOk.calls k1 x4_1 true _ A8.out).mono ?_); rintro e w' ⟨rfl, ⟨nd, rfl⟩⟩; refine ⟨_, rfl, ?_⟩) | (go_at_call 97; (with_reducible refine (spec_Pack.calls k1 x4_1 t678 _ A10.out).mono ?_); rintro e w15 ⟨v679, rfl, ho0, hb⟩; have HO680 := Z (Kd.R_lower ho0 (below_size Z75)); replace HB := Z (below_step Z75 hb); (try clear hb); (try clear hb2); (try clear hk); (try clear hi); (try clear ho0); obtain ⟨Ao16, co16, eo16⟩ := Kd.R_slice HO680.out; subst eo16) | (go_at_call 136; (with_reducible refine (spec_l03Same.calls k1 _ _ t678 _ _ l0 false _ ?side1 ?side2 ?side3 ?side4 A11.out).mono ?_); (case side1 => exact (Z16 HO680)); (case side2 => exact (Kd.R_reads' HO680.out).2.1); (case side3 => exact (Z29 HR0)); (case side4 => exact HC0.out); rintro e w' ⟨rfl, ⟨nd, rfl⟩⟩))
    go_ret2
    exact ⟨Z76, Z75⟩
   replace c9 := Bool.eq_false_iff.mpr c9; subst c9; replace H := Yf H; simp only [Option.some.injEq, Prod.mk.injEq] at H; obtain ⟨rfl, rfl⟩ := H
   go_wp2_with (first | ((with_reducible refine gate_callee (f := 118) rfl ?_); refine goesL_ (some 23) rfl rfl Tryz.func118 Z0 rfl #[.string x4_1] rfl Z10 ?_; (with_reducible refine (spec_NameOk.calls k1 x4_1 false _ A8.out).mono ?_); rintro e w' ⟨rfl, ⟨nd, rfl⟩⟩; refine ⟨_, rfl, ?_⟩))
   go_ret2
   exact ⟨Z76, Z75⟩

def spec_l04Name.l0 : Nat → List Int → Int → List Int → Int → Option (Int × ByteArray × Int × Bool × Int × Int)
 | 0, _, _, _, _ => none
 | k + 1, x0, x2, x8, x9 => if x9 < (x0.length : Int) then (if 0 ≤ x9 then (if (Int.tmod (rd x0 x9) 16) = 0 then (if (rd x0 x9) = 0 then ((spec_Unpack.f k x8).bind fun bt689 => (if bt689.2 = true then (some (x2, bt689.1, 0, false, 0, (x8.length : Int))) else (some (0, (⟨#[]⟩ : ByteArray), 0, false, 0, 0)))) else (if x8.length < 35184372088832 then (spec_l04Name.l0 k x0 x2 (x8 ++ [(Int.tdiv (rd x0 x9) 16) % 4294967296]) (wrap64 (x9 + 1))) else (none))) else ((spec_Unpack.f k x8).bind fun bt695 => (if bt695.2 = true then (some (x2, bt695.1, 0, false, 0, (x8.length : Int))) else (some (0, (⟨#[]⟩ : ByteArray), 0, false, 0, 0))))) else (none)) else ((spec_Unpack.f k x8).bind fun bt697 => (if bt697.2 = true then (some (x2, bt697.1, 0, false, 0, (x8.length : Int))) else (some (0, (⟨#[]⟩ : ByteArray), 0, false, 0, 0))))
def spec_l04Name.f (k : Nat) (l0 : List Int) (a1 : Int) (a2 : Int) : Option (Int × ByteArray × Int × Bool × Int × Int) := if 0 ≤ a1 then (if a1 < (l0.length : Int) then (spec_l04Name.l0 k l0 a2 (([(Int.tdiv (rd l0 a1) 16) % 4294967296] : List Int)) (wrap64 (a1 + 1))) else (none)) else (none)
theorem spec_l04Name.calls (k : Nat) (A0 : Option Addr) (c0 : Nat) (l0 : List Int) (a1 : Int) (a2 : Int) (r1 : Int) (r2 : ByteArray) (r3 : Int) (r4 : Bool) (r5 : Int) (r6 : Int) (w : World) (hr0 : Kd.C (Kd.int .u32) w A0 l0.length l0) (hc0 : l0.length ≤ c0) (h : spec_l04Name.f k l0 a1 a2 = some (r1, r2, r3, r4, r5, r6)) :
  Calls Tryz.prog 91 #[.slice A0 l0.length c0, .int .i64 a1, .int .i64 a2] w fun e w' => e = .returned (.tuple #[.agg #[.int .i64 r1, .string r2, .int .i32 r3, .bool r4, .int .u32 r5], .int .i64 r6]) ∧ Below w.heap.size w w' := by
 have hu46 := Tryz.underlying46; have HR0 := Aside0.mk hr0; have HC0 := Aside0.mk hc0; clear hr0 hc0; have HB := Z (Below.refl w.heap.size w); unfold spec_l04Name.f at h; have H := h; clear h; replace H := Yg H; obtain ⟨c4, H⟩ := H; have c4b0 := decide_eq_true c4; clear c4; replace H := Yg H; obtain ⟨c5, H⟩ := H; have c5b0 := decide_eq_true c5; clear c5; obtain ⟨y684, hy684⟩ : ∃ y_ : List Int, y_ = (([(Int.tdiv (rd l0 a1) 16) % 4294967296] : List Int)) := ⟨_, rfl⟩; replace H : (spec_l04Name.l0 k l0 a2 y684 (wrap64 (a1 + 1))) = some (r1, r2, r3, r4, r5, r6) := Yy hy684 H; have Ny684 := Aside0.mk hy684; clear hy684; have H' := Aside0.mk H; clear H; go_enter Tryz.func91, Tryz.ntmps91
 go_wp2_with (first | ((with_reducible refine gate_dst (N := 6) rfl ?_); refine box_event (by rfl) (N := 6) (by rfl) (cs := #[.int .i64 0, .string (⟨#[]⟩ : ByteArray), .int .i32 0, .bool false, .int .u32 0]) (t := 46) Z7 ?_; intro gb682 hg w6 hbox hb; have BK682 := Z (hbox); have GW682 := Z ((Z99 : w.heap.size ≤ gb682)); have GE682 := Z ((Z99 : w.heap.size ≤ gb682)); replace HB := Z (below_step Z75 hb); clear hb hbox hg; have p683 : 0 ≤ (a1 : Int) := of_decide_eq_true Z5; have q683 : a1 < (l0.length : Int) := of_decide_eq_true Z5; obtain ⟨ad683, e683, hx683_0⟩ := Kd.at_int HR0.out a1 p683 q683; cases e683; replace hx683_0 := Yh HB.out hx683_0; replace p683 := eq_true p683; replace q683 := eq_true q683) | ((with_reducible refine gate_dst (N := 17) rfl ?_); refine Kd.R_lit (Kd.int .u32) _ 44 (by rfl) (N := 17) (by rfl) (xs := ([(Int.tdiv (rd l0 a1) 16) % 4294967296] : List Int)) (inner := [.int .u32 ((Int.tdiv (rd l0 a1) 16) % 4294967296)]) (ok := fun _ => True) (okp := fun _ => True) Z7 (Reps.one (show Kd.M (Kd.int .u32) _ _ _ ((Int.tdiv (rd l0 a1) 16) % 4294967296) [.int .u32 ((Int.tdiv (rd l0 a1) 16) % 4294967296)] from rfl) (Reps.none _ _)) (fun _ hk => hk) trivial (Below.refl _ _) (Nat.le_refl _) (by simp) ?_; intro v685 w7 ho8 hb hg_ hnew_; clear hg_ hnew_; (first | rw [← Ny684.out] at ho8 | (simp only [Int.reduceToNat] at ho8; rw [← Ny684.out] at ho8)); have HO686 := Z (Kd.R_lower ho8 (below_size Z75)); replace BK682 := Z (Yk9 BK682 hb); replace HB := Z (below_step Z75 hb); clear hb ho8))
 go_loopg [8, 9] k (fun kq v8 v9 w' => ∃ (x8_1 : List Int) (x9_1 : Int), v9 = .int .i64 x9_1 ∧ Aside0 (spec_l04Name.l0 kq l0 a2 x8_1 x9_1 = some (r1, r2, r3, r4, r5, r6)) ∧ Aside0 (kq ≤ k) ∧ Aside0 (Kd.R (Kd.int .u32) 44 w' w.heap.size (fun _ => True) v8 x8_1) ∧ Aside0 (w'.heap[gb682]? = some (.cells #[.int .i64 0, .string (⟨#[]⟩ : ByteArray), .int .i32 0, .bool false, .int .u32 0] 46 (0, 0))) ∧ Aside0 (Below w.heap.size w w'))
 case atStart => exact ⟨(y684), (wrap64 (a1 + 1)), Z2, H', ⟨Nat.le_refl _⟩, ⟨(Z11 HO686)⟩, ⟨(Z8 BK682)⟩, ⟨Z75⟩⟩
 case round =>
  clear H'; (try clear p2); (try clear c4); (try clear c4b0); (try clear c5); (try clear c5b0); (try clear p6); (try clear q6); (try clear hx6); (try clear hx683_0); (try clear p683); (try clear q683); obtain ⟨x8_1, x9_1, rfl, HA, HK1, HO_8, BK682, HB⟩ := hrel
  cases gk with
  | zero => exact absurd HA.out (by simp [spec_l04Name.l0])
  | succ k1 =>
   have H := HA.out; clear HA; simp only [spec_l04Name.l0] at H; replace H := Yi H; rcases H with ⟨c9, H⟩ | ⟨c9, H⟩
   ·have c9b0 := decide_eq_true c9; clear c9; replace H := Yg H; obtain ⟨c10, H⟩ := H; have c10b0 := decide_eq_true c10; clear c10; replace H := Yi H; rcases H with ⟨c11, H⟩ | ⟨c11, H⟩
    ·obtain ⟨c11b0, c11b1⟩ := Ye c11; clear c11; replace H := Yi H; rcases H with ⟨c12, H⟩ | ⟨c12, H⟩
     ·obtain ⟨c12b0, c12b1⟩ := Ye c12; clear c12; replace H := Yd H; obtain ⟨⟨t689, t690⟩, A13, H⟩ := H; (try dsimp only at H); by_cases c14 : t690 = true
      ·subst c14; replace H := Yt H; simp only [Option.some.injEq, Prod.mk.injEq] at H; obtain ⟨rfl, rfl, rfl, rfl, rfl, rfl⟩ := H; have p687 : 0 ≤ (x9_1 : Int) := of_decide_eq_true Z5; have q687 : x9_1 < (l0.length : Int) := of_decide_eq_true Z5; obtain ⟨ad687, e687, hx687_0⟩ := Kd.at_int HR0.out x9_1 p687 q687; obtain rfl : ad683 = ad687 := (by injection e687); replace hx687_0 := Yh HB.out hx687_0; replace p687 := eq_true p687; replace q687 := eq_true q687; have p688 : 0 ≤ (x9_1 : Int) := of_decide_eq_true Z5; have q688 : x9_1 < (l0.length : Int) := of_decide_eq_true Z5; obtain ⟨ad688, e688, hx688_0⟩ := Kd.at_int HR0.out x9_1 p688 q688; obtain rfl : ad683 = ad688 := (by injection e688); replace hx688_0 := Yh HB.out hx688_0; replace p688 := eq_true p688; replace q688 := eq_true q688; obtain ⟨Ao15, co15, eo15⟩ := Kd.R_slice HO_8.out; subst eo15
       go_wp2_with (first | ((with_reducible refine gate_callee (f := 113) rfl ?_); refine goesL_ (some 51) rfl rfl Tryz.func113 Z0 rfl #[.slice Ao15 x8_1.length co15] rfl Z10 ?_; (with_reducible refine (spec_Unpack.calls k1 _ _ x8_1 t689 true _ ?side1 ?side2 A13.out).mono ?_); (case side1 => exact (Z16 HO_8)); (case side2 => exact (Kd.R_reads' HO_8.out).2.1); rintro e w16 ⟨rfl, hb⟩; refine ⟨_, rfl, ?_⟩; replace HO_8 := Z (Kd.R_below (Z11 HO_8) hb); replace BK682 := Z (Yk9 BK682 hb); replace HB := Z (below_step Z75 hb); (try clear hb); (try clear hb2); (try clear hk); (try clear hi); have hcz17 := Yb5 BK682.out))
       refine bodyPost_ret (results_ct rfl _ _ gb682 46 #[.int .i64 a2, .string t689, .int .i32 0, .bool false, .int .u32 0] (0, 0) _ rfl (by (with_reducible repeat (first | refine blk_drewN ?_ _ | refine blk_drew ?_ | refine blk_alloc ?_ _)); refine blk_put (cs := #[.int .i64 a2, .string t689, .int .i32 0, .bool false, .int .u32 0]) ?_ 4 _ rfl; (with_reducible repeat (first | refine blk_drewN ?_ _ | refine blk_drew ?_ | refine blk_alloc ?_ _)); refine blk_put (cs := #[.int .i64 a2, .string t689, .int .i32 0, .bool false, .int .u32 0]) ?_ 3 _ rfl; (with_reducible repeat (first | refine blk_drewN ?_ _ | refine blk_drew ?_ | refine blk_alloc ?_ _)); refine blk_put (cs := #[.int .i64 a2, .string t689, .int .i32 0, .bool false, .int .u32 0]) ?_ 2 _ rfl; (with_reducible repeat (first | refine blk_drewN ?_ _ | refine blk_drew ?_ | refine blk_alloc ?_ _)); refine blk_put (cs := #[.int .i64 a2, .string (⟨#[]⟩ : ByteArray), .int .i32 0, .bool false, .int .u32 0]) ?_ 1 _ rfl; (with_reducible repeat (first | refine blk_drewN ?_ _ | refine blk_drew ?_ | refine blk_alloc ?_ _)); refine blk_put (cs := #[.int .i64 0, .string (⟨#[]⟩ : ByteArray), .int .i32 0, .bool false, .int .u32 0]) ?_ 0 _ rfl; (with_reducible repeat (first | refine blk_drewN ?_ _ | refine blk_drew ?_ | refine blk_alloc ?_ _)); exact BK682.out) Tryz.underlying46 rfl Z0) rfl ?_
       exact ⟨Z76, Z75⟩
      replace c14 := Bool.eq_false_iff.mpr c14; subst c14; replace H := Yf H; simp only [Option.some.injEq, Prod.mk.injEq] at H; obtain ⟨rfl, rfl, rfl, rfl, rfl, rfl⟩ := H; have p687 : 0 ≤ (x9_1 : Int) := of_decide_eq_true Z5; have q687 : x9_1 < (l0.length : Int) := of_decide_eq_true Z5; obtain ⟨ad687, e687, hx687_0⟩ := Kd.at_int HR0.out x9_1 p687 q687; obtain rfl : ad683 = ad687 := (by injection e687); replace hx687_0 := Yh HB.out hx687_0; replace p687 := eq_true p687; replace q687 := eq_true q687; have p688 : 0 ≤ (x9_1 : Int) := of_decide_eq_true Z5; have q688 : x9_1 < (l0.length : Int) := of_decide_eq_true Z5; obtain ⟨ad688, e688, hx688_0⟩ := Kd.at_int HR0.out x9_1 p688 q688; obtain rfl : ad683 = ad688 := (by injection e688); replace hx688_0 := Yh HB.out hx688_0; replace p688 := eq_true p688; replace q688 := eq_true q688; obtain ⟨Ao18, co18, eo18⟩ := Kd.R_slice HO_8.out; subst eo18
      go_wp2_with (first | ((with_reducible refine gate_callee (f := 113) rfl ?_); refine goesL_ (some 51) rfl rfl Tryz.func113 Z0 rfl #[.slice Ao18 x8_1.length co18] rfl Z10 ?_; (with_reducible refine (spec_Unpack.calls k1 _ _ x8_1 t689 false _ ?side1 ?side2 A13.out).mono ?_); (case side1 => exact (Z16 HO_8)); (case side2 => exact (Kd.R_reads' HO_8.out).2.1); rintro e w19 ⟨rfl, hb⟩; refine ⟨_, rfl, ?_⟩; replace HO_8 := Z (Kd.R_below (Z11 HO_8) hb); replace BK682 := Z (Yk9 BK682 hb); replace HB := Z (below_step Z75 hb); (try clear hb); (try clear hb2); (try clear hk); (try clear hi); have hcz20 := Yb5 BK682.out))
      refine bodyPost_ret (results_ct rfl _ _ gb682 46 #[.int .i64 0, .string (⟨#[]⟩ : ByteArray), .int .i32 0, .bool false, .int .u32 0] (0, 0) _ rfl (Z31 BK682) Tryz.underlying46 rfl Z0) rfl ?_
      exact ⟨Z76, Z75⟩
     obtain ⟨c12b0, c12b1⟩ := Yn c12; replace H := Yg H; obtain ⟨c21, H⟩ := H; have LMc21 := Aside0.mk c21; clear c21; obtain ⟨y692, hy692⟩ : ∃ y_ : List Int, y_ = (x8_1 ++ [(Int.tdiv (rd l0 x9_1) 16) % 4294967296]) := ⟨_, rfl⟩; replace H : (spec_l04Name.l0 k1 l0 a2 y692 (wrap64 (x9_1 + 1))) = some (r1, r2, r3, r4, r5, r6) := Yy hy692 H; have Ny692 := Aside0.mk hy692; clear hy692; have H' := Aside0.mk H; clear H; have p687 : 0 ≤ (x9_1 : Int) := of_decide_eq_true Z5; have q687 : x9_1 < (l0.length : Int) := of_decide_eq_true Z5; obtain ⟨ad687, e687, hx687_0⟩ := Kd.at_int HR0.out x9_1 p687 q687; obtain rfl : ad683 = ad687 := (by injection e687); replace hx687_0 := Yh HB.out hx687_0; replace p687 := eq_true p687; replace q687 := eq_true q687; have p688 : 0 ≤ (x9_1 : Int) := of_decide_eq_true Z5; have q688 : x9_1 < (l0.length : Int) := of_decide_eq_true Z5; obtain ⟨ad688, e688, hx688_0⟩ := Kd.at_int HR0.out x9_1 p688 q688; obtain rfl : ad683 = ad688 := (by injection e688); replace hx688_0 := Yh HB.out hx688_0; replace p688 := eq_true p688; replace q688 := eq_true q688; have p691 : 0 ≤ (x9_1 : Int) := of_decide_eq_true Z5; have q691 : x9_1 < (l0.length : Int) := of_decide_eq_true Z5; obtain ⟨ad691, e691, hx691_0⟩ := Kd.at_int HR0.out x9_1 p691 q691; obtain rfl : ad683 = ad691 := (by injection e691); replace hx691_0 := Yh HB.out hx691_0; replace p691 := eq_true p691; replace q691 := eq_true q691
     go_wp2_with (first | ((with_reducible refine gate_builtin (b := .append) (xs := #[.tmp 41, .tmp 47]) rfl ?_); at_builtin; refine Kd.R_append (Kd.int .u32) (w0 := w) w.heap.size rfl (.tmp 41) (.tmp 47) 24 44 (.int .u32 0) 4 rfl Tryz.underlying24 info44 rfl (by decide) (by omega) u8 x8_1 ((Int.tdiv (rd l0 x9_1) 16) % 4294967296) [.int .u32 ((Int.tdiv (rd l0 x9_1) 16) % 4294967296)] (fun _ => True) (fun _ => False) rfl rfl ?aP (fun _ hk => hk.elim) ?aF ?aO ?aB ?aS ?aL ?_; (case aP => exact rfl); (case aB => exact Z75); (case aF => exact (fun _ _ => trivial)); (case aO => exact (Z11 HO_8)); (case aS => exact (below_size Z75)); (case aL => have := LMc21.out; omega); intro v693 w22 ho hb hg hat; rw [← Ny692.out] at ho; replace BK682 := Z (blk_grown (g := gb682) (o := .cells #[.int .i64 0, .string (⟨#[]⟩ : ByteArray), .int .i32 0, .bool false, .int .u32 0] 46 (0, 0)) (Z8 BK682) hg (Kd.R_ne HO_8.out BK682.out (by decide))); replace HB := Z (hb); have HO694 := Z (ho); clear HO_8; clear ho hb hg hat))
     go_roundg k1
     case measure => have := HK1.out; omega
     case rel => exact ⟨(y692), (wrap64 (x9_1 + 1)), Z2, H', ⟨Z6⟩, ⟨(Z11 HO694)⟩, ⟨(Z8 BK682)⟩, ⟨Z75⟩⟩
    obtain ⟨c11b0, c11b1⟩ := Yn c11; replace H := Yd H; obtain ⟨⟨t695, t696⟩, A23, H⟩ := H; (try dsimp only at H); by_cases c24 : t696 = true
    ·subst c24; replace H := Yt H; simp only [Option.some.injEq, Prod.mk.injEq] at H; obtain ⟨rfl, rfl, rfl, rfl, rfl, rfl⟩ := H; have p687 : 0 ≤ (x9_1 : Int) := of_decide_eq_true Z5; have q687 : x9_1 < (l0.length : Int) := of_decide_eq_true Z5; obtain ⟨ad687, e687, hx687_0⟩ := Kd.at_int HR0.out x9_1 p687 q687; obtain rfl : ad683 = ad687 := (by injection e687); replace hx687_0 := Yh HB.out hx687_0; replace p687 := eq_true p687; replace q687 := eq_true q687; obtain ⟨Ao25, co25, eo25⟩ := Kd.R_slice HO_8.out; subst eo25
     go_wp2_with (first | ((with_reducible refine gate_callee (f := 113) rfl ?_); refine goesL_ (some 51) rfl rfl Tryz.func113 Z0 rfl #[.slice Ao25 x8_1.length co25] rfl Z10 ?_; (with_reducible refine (spec_Unpack.calls k1 _ _ x8_1 t695 true _ ?side1 ?side2 A23.out).mono ?_); (case side1 => exact (Z16 HO_8)); (case side2 => exact (Kd.R_reads' HO_8.out).2.1); rintro e w26 ⟨rfl, hb⟩; refine ⟨_, rfl, ?_⟩; replace HO_8 := Z (Kd.R_below (Z11 HO_8) hb); replace BK682 := Z (Yk9 BK682 hb); replace HB := Z (below_step Z75 hb); (try clear hb); (try clear hb2); (try clear hk); (try clear hi); have hcz27 := Yb5 BK682.out))
     refine bodyPost_ret (results_ct rfl _ _ gb682 46 #[.int .i64 a2, .string t695, .int .i32 0, .bool false, .int .u32 0] (0, 0) _ rfl (by (with_reducible repeat (first | refine blk_drewN ?_ _ | refine blk_drew ?_ | refine blk_alloc ?_ _)); refine blk_put (cs := #[.int .i64 a2, .string t695, .int .i32 0, .bool false, .int .u32 0]) ?_ 4 _ rfl; (with_reducible repeat (first | refine blk_drewN ?_ _ | refine blk_drew ?_ | refine blk_alloc ?_ _)); refine blk_put (cs := #[.int .i64 a2, .string t695, .int .i32 0, .bool false, .int .u32 0]) ?_ 3 _ rfl; (with_reducible repeat (first | refine blk_drewN ?_ _ | refine blk_drew ?_ | refine blk_alloc ?_ _)); refine blk_put (cs := #[.int .i64 a2, .string t695, .int .i32 0, .bool false, .int .u32 0]) ?_ 2 _ rfl; (with_reducible repeat (first | refine blk_drewN ?_ _ | refine blk_drew ?_ | refine blk_alloc ?_ _)); refine blk_put (cs := #[.int .i64 a2, .string (⟨#[]⟩ : ByteArray), .int .i32 0, .bool false, .int .u32 0]) ?_ 1 _ rfl; (with_reducible repeat (first | refine blk_drewN ?_ _ | refine blk_drew ?_ | refine blk_alloc ?_ _)); refine blk_put (cs := #[.int .i64 0, .string (⟨#[]⟩ : ByteArray), .int .i32 0, .bool false, .int .u32 0]) ?_ 0 _ rfl; (with_reducible repeat (first | refine blk_drewN ?_ _ | refine blk_drew ?_ | refine blk_alloc ?_ _)); exact BK682.out) Tryz.underlying46 rfl Z0) rfl ?_
     exact ⟨Z76, Z75⟩
    replace c24 := Bool.eq_false_iff.mpr c24; subst c24; replace H := Yf H; simp only [Option.some.injEq, Prod.mk.injEq] at H; obtain ⟨rfl, rfl, rfl, rfl, rfl, rfl⟩ := H; have p687 : 0 ≤ (x9_1 : Int) := of_decide_eq_true Z5; have q687 : x9_1 < (l0.length : Int) := of_decide_eq_true Z5; obtain ⟨ad687, e687, hx687_0⟩ := Kd.at_int HR0.out x9_1 p687 q687; obtain rfl : ad683 = ad687 := (by injection e687); replace hx687_0 := Yh HB.out hx687_0; replace p687 := eq_true p687; replace q687 := eq_true q687; obtain ⟨Ao28, co28, eo28⟩ := Kd.R_slice HO_8.out; subst eo28
    go_wp2_with (first | ((with_reducible refine gate_callee (f := 113) rfl ?_); refine goesL_ (some 51) rfl rfl Tryz.func113 Z0 rfl #[.slice Ao28 x8_1.length co28] rfl Z10 ?_; (with_reducible refine (spec_Unpack.calls k1 _ _ x8_1 t695 false _ ?side1 ?side2 A23.out).mono ?_); (case side1 => exact (Z16 HO_8)); (case side2 => exact (Kd.R_reads' HO_8.out).2.1); rintro e w29 ⟨rfl, hb⟩; refine ⟨_, rfl, ?_⟩; replace HO_8 := Z (Kd.R_below (Z11 HO_8) hb); replace BK682 := Z (Yk9 BK682 hb); replace HB := Z (below_step Z75 hb); (try clear hb); (try clear hb2); (try clear hk); (try clear hi); have hcz30 := Yb5 BK682.out))
    refine bodyPost_ret (results_ct rfl _ _ gb682 46 #[.int .i64 0, .string (⟨#[]⟩ : ByteArray), .int .i32 0, .bool false, .int .u32 0] (0, 0) _ rfl (Z31 BK682) Tryz.underlying46 rfl Z0) rfl ?_
    exact ⟨Z76, Z75⟩
   have c9b0 := decide_eq_false c9; clear c9; replace H := Yd H; obtain ⟨⟨t697, t698⟩, A31, H⟩ := H; (try dsimp only at H); by_cases c32 : t698 = true
   ·subst c32; replace H := Yt H; simp only [Option.some.injEq, Prod.mk.injEq] at H; obtain ⟨rfl, rfl, rfl, rfl, rfl, rfl⟩ := H; obtain ⟨Ao33, co33, eo33⟩ := Kd.R_slice HO_8.out; subst eo33
    go_wp2_with (first | ((with_reducible refine gate_callee (f := 113) rfl ?_); refine goesL_ (some 51) rfl rfl Tryz.func113 Z0 rfl #[.slice Ao33 x8_1.length co33] rfl Z10 ?_; (with_reducible refine (spec_Unpack.calls k1 _ _ x8_1 t697 true _ ?side1 ?side2 A31.out).mono ?_); (case side1 => exact (Z16 HO_8)); (case side2 => exact (Kd.R_reads' HO_8.out).2.1); rintro e w34 ⟨rfl, hb⟩; refine ⟨_, rfl, ?_⟩; replace HO_8 := Z (Kd.R_below (Z11 HO_8) hb); replace BK682 := Z (Yk9 BK682 hb); replace HB := Z (below_step Z75 hb); (try clear hb); (try clear hb2); (try clear hk); (try clear hi); have hcz35 := Yb5 BK682.out))
    refine bodyPost_ret (results_ct rfl _ _ gb682 46 #[.int .i64 a2, .string t697, .int .i32 0, .bool false, .int .u32 0] (0, 0) _ rfl (by (with_reducible repeat (first | refine blk_drewN ?_ _ | refine blk_drew ?_ | refine blk_alloc ?_ _)); refine blk_put (cs := #[.int .i64 a2, .string t697, .int .i32 0, .bool false, .int .u32 0]) ?_ 4 _ rfl; (with_reducible repeat (first | refine blk_drewN ?_ _ | refine blk_drew ?_ | refine blk_alloc ?_ _)); refine blk_put (cs := #[.int .i64 a2, .string t697, .int .i32 0, .bool false, .int .u32 0]) ?_ 3 _ rfl; (with_reducible repeat (first | refine blk_drewN ?_ _ | refine blk_drew ?_ | refine blk_alloc ?_ _)); refine blk_put (cs := #[.int .i64 a2, .string t697, .int .i32 0, .bool false, .int .u32 0]) ?_ 2 _ rfl; (with_reducible repeat (first | refine blk_drewN ?_ _ | refine blk_drew ?_ | refine blk_alloc ?_ _)); refine blk_put (cs := #[.int .i64 a2, .string (⟨#[]⟩ : ByteArray), .int .i32 0, .bool false, .int .u32 0]) ?_ 1 _ rfl; (with_reducible repeat (first | refine blk_drewN ?_ _ | refine blk_drew ?_ | refine blk_alloc ?_ _)); refine blk_put (cs := #[.int .i64 0, .string (⟨#[]⟩ : ByteArray), .int .i32 0, .bool false, .int .u32 0]) ?_ 0 _ rfl; (with_reducible repeat (first | refine blk_drewN ?_ _ | refine blk_drew ?_ | refine blk_alloc ?_ _)); exact BK682.out) Tryz.underlying46 rfl Z0) rfl ?_
    exact ⟨Z76, Z75⟩
   replace c32 := Bool.eq_false_iff.mpr c32; subst c32; replace H := Yf H; simp only [Option.some.injEq, Prod.mk.injEq] at H; obtain ⟨rfl, rfl, rfl, rfl, rfl, rfl⟩ := H; obtain ⟨Ao36, co36, eo36⟩ := Kd.R_slice HO_8.out; subst eo36
   go_wp2_with (first | ((with_reducible refine gate_callee (f := 113) rfl ?_); refine goesL_ (some 51) rfl rfl Tryz.func113 Z0 rfl #[.slice Ao36 x8_1.length co36] rfl Z10 ?_; (with_reducible refine (spec_Unpack.calls k1 _ _ x8_1 t697 false _ ?side1 ?side2 A31.out).mono ?_); (case side1 => exact (Z16 HO_8)); (case side2 => exact (Kd.R_reads' HO_8.out).2.1); rintro e w37 ⟨rfl, hb⟩; refine ⟨_, rfl, ?_⟩; replace HO_8 := Z (Kd.R_below (Z11 HO_8) hb); replace BK682 := Z (Yk9 BK682 hb); replace HB := Z (below_step Z75 hb); (try clear hb); (try clear hb2); (try clear hk); (try clear hi); have hcz38 := Yb5 BK682.out))
   refine bodyPost_ret (results_ct rfl _ _ gb682 46 #[.int .i64 0, .string (⟨#[]⟩ : ByteArray), .int .i32 0, .bool false, .int .u32 0] (0, 0) _ rfl (Z31 BK682) Tryz.underlying46 rfl Z0) rfl ?_
   exact ⟨Z76, Z75⟩

mutual
def spec_l04Number.j0 : Nat → List Int → Int → Int → Int → Bool → Int → ByteArray → Int → Bool → Int → Option (Int × ByteArray × Int × Bool × Int × Int)
 | 0, _, _, _, _, _, _, _, _, _, _ => none
 | k + 1, x0, x1, x6, x7, x24, x702000, x702001, x702002, x702003, x702004 => if x24 = true then (spec_l04Number.j1 k x0 x1 x6 x7 8 x702001 x702002 x702003 x702004) else (spec_l04Number.j1 k x0 x1 x6 x7 x702000 x702001 x702002 x702003 x702004)
def spec_l04Number.j1 : Nat → List Int → Int → Int → Int → Int → ByteArray → Int → Bool → Int → Option (Int × ByteArray × Int × Bool × Int × Int)
 | 0, _, _, _, _, _, _, _, _, _ => none
 | k + 1, x0, x1, x6, x7, x702000, x702001, x702002, x702003, x702004 => if x7 = 8 then (spec_l04Number.j2 k x0 x1 x6 true x702000 x702001 x702002 x702003 x702004) else (spec_l04Number.j2 k x0 x1 x6 (x7 == 6) x702000 x702001 x702002 x702003 x702004)
def spec_l04Number.j2 : Nat → List Int → Int → Int → Bool → Int → ByteArray → Int → Bool → Int → Option (Int × ByteArray × Int × Bool × Int × Int)
 | 0, _, _, _, _, _, _, _, _, _ => none
 | k + 1, x0, x1, x6, x31, x702000, x702001, x702002, x702003, x702004 => if x31 = true then (some (x702000, x702001, (wrap32 (x6)) / 32, x702003, x702004, 1)) else (if (wrap64 (x1 + 1)) ≥ (x0.length : Int) then (some (0, (⟨#[]⟩ : ByteArray), 0, false, 0, 0)) else (if ((Int.tdiv x6 32) % 4294967296) = 0 then (if 0 ≤ (wrap64 (x1 + 1)) then (if (wrap64 (x1 + 1)) < (x0.length : Int) then ((spec_CellsOf.f k x702000 x702001 (wrap32 (rd x0 (wrap64 (x1 + 1)))) x702003 x702004).bind fun t703 => (some (x702000, x702001, wrap32 (rd x0 (wrap64 (x1 + 1))), x702003, x702004, wrap64 ((wrap64 ((t703.length : Int) / 2)) * 2)))) else (none)) else (none)) else (some (0, (⟨#[]⟩ : ByteArray), 0, false, 0, 0))))
end
def spec_l04Number.f (k : Nat) (l0 : List Int) (a1 : Int) : Option (Int × ByteArray × Int × Bool × Int × Int) := if 0 ≤ a1 then (if a1 < (l0.length : Int) then (if (Int.tmod (rd l0 a1) 16) = 6 then (spec_l04Number.j0 k l0 a1 (rd l0 a1) (Int.tmod (rd l0 a1) 16) true 7 (⟨#[]⟩ : ByteArray) 0 ((Go.bits .and .u32 (rd l0 a1) 16) != 0) 0) else (spec_l04Number.j0 k l0 a1 (rd l0 a1) (Int.tmod (rd l0 a1) 16) ((Int.tmod (rd l0 a1) 16) == 5) 7 (⟨#[]⟩ : ByteArray) 0 ((Go.bits .and .u32 (rd l0 a1) 16) != 0) 0)) else (none)) else (none)
def spec_l04Number.T12 : Bool × List (List Nat × List Nat) := (true, [([], []), ([], []), ([1], [1]), ([2], [2]), ([3], [3]), ([4], [4]), ([0, 2, 0], [0]), ([5, 6, 0, 1, 2, 3, 4, 5, 6], [5])])
def spec_l04Number.B12 : List Nat := [0, 0, 2, 6, 14, 30, 7, 127]
theorem spec_l04Number.tab12 : rtab .any (opsOf Tryz.f92 12) = spec_l04Number.T12 := Z0
theorem spec_l04Number.bits12 : waitsOk spec_l04Number.T12.2 spec_l04Number.B12 = true := Z0
theorem spec_l04Number.calls (k : Nat) (A0 : Option Addr) (c0 : Nat) (l0 : List Int) (a1 : Int) (r1 : Int) (r2 : ByteArray) (r3 : Int) (r4 : Bool) (r5 : Int) (r6 : Int) (w : World) (hr0 : Kd.C (Kd.int .u32) w A0 l0.length l0) (hc0 : l0.length ≤ c0) (h : spec_l04Number.f k l0 a1 = some (r1, r2, r3, r4, r5, r6)) :
  Calls Tryz.prog 92 #[.slice A0 l0.length c0, .int .i64 a1] w fun e w' => e = .returned (.tuple #[.agg #[.int .i64 r1, .string r2, .int .i32 r3, .bool r4, .int .u32 r5], .int .i64 r6]) ∧ Below w.heap.size w w' := by
 have hu46 := Tryz.underlying46; have HR0 := Aside0.mk hr0; have HC0 := Aside0.mk hc0; clear hr0 hc0; have HB := Z (Below.refl w.heap.size w); unfold spec_l04Number.f at h; have H := h; clear h; replace H := Yg H; obtain ⟨c3, H⟩ := H; have c3b0 := decide_eq_true c3; clear c3; replace H := Yg H; obtain ⟨c4, H⟩ := H; have c4b0 := decide_eq_true c4; clear c4; have HC5 := Aside0.mk H; clear H; go_enter Tryz.func92, Tryz.ntmps92
 go_upto_region 4 with (first | ((with_reducible refine gate_dst (N := 4) rfl ?_); refine box_event (by rfl) (N := 4) (by rfl) (cs := #[.int .i64 0, .string (⟨#[]⟩ : ByteArray), .int .i32 0, .bool false, .int .u32 0]) (t := 46) Z7 ?_; intro gb699 hg w6 hbox hb; have BK699 := Z (hbox); have GW699 := Z ((Z99 : w.heap.size ≤ gb699)); have GE699 := Z ((Z99 : w.heap.size ≤ gb699)); replace HB := Z (below_step Z75 hb); clear hb hbox hg; have p700 : 0 ≤ (a1 : Int) := of_decide_eq_true Z5; have q700 : a1 < (l0.length : Int) := of_decide_eq_true Z5; obtain ⟨ad700, e700, hx700_0⟩ := Kd.at_int HR0.out a1 p700 q700; cases e700; replace hx700_0 := Yh HB.out hx700_0; replace p700 := eq_true p700; replace q700 := eq_true q700) | ((with_reducible refine gate_dst (N := 8) rfl ?_); refine box_event (by rfl) (N := 8) (by rfl) (cs := #[.int .i64 0, .string (⟨#[]⟩ : ByteArray), .int .i32 0, .bool false, .int .u32 0]) (t := 46) Z7 ?_; intro gb701 hg w7 hbox hb; have BK701 := Z (hbox); have GW701 := Z ((Z99 : w.heap.size ≤ gb701)); have GE701 := Z ((Z99 : w.heap.size ≤ gb701)); replace HB := Z (below_step Z75 hb); have NB699_701 := Z ((by rw [hg]; exact Nat.ne_of_lt (blk_lt (g := gb699) (o := .cells #[.int .i64 0, .string (⟨#[]⟩ : ByteArray), .int .i32 0, .bool false, .int .u32 0] 46 (0, 0)) (Z8 BK699)) : gb699 ≠ gb701)); have NB701_699 := Z ((by rw [hg]; exact Nat.ne_of_gt (blk_lt (g := gb699) (o := .cells #[.int .i64 0, .string (⟨#[]⟩ : ByteArray), .int .i32 0, .bool false, .int .u32 0] 46 (0, 0)) (Z8 BK699)) : gb701 ≠ gb699)); replace BK699 := Z (Yk9 BK699 hb); clear hb hbox hg; have hnb8 := NB701_699.out; have hnc8 := NB699_701.out; have hcz9 := Yb5 BK701.out))
 (try simp only [Act.put, List.setIfInBounds_toArray, List.set_cons_zero, List.set_cons_succ])
 go_cut [24] (fun v24 wc => ∃ (kq : Nat) (x24_4 : Bool), v24 = .bool x24_4 ∧ Aside0 (spec_l04Number.j0 kq l0 a1 (rd l0 a1) (Int.tmod (rd l0 a1) 16) x24_4 7 (⟨#[]⟩ : ByteArray) 0 ((Go.bits .and .u32 (rd l0 a1) 16) != 0) 0 = some (r1, r2, r3, r4, r5, r6)) ∧ Aside0 (kq ≤ k) ∧ Aside0 (wc.heap[gb699]? = some (.cells #[.int .i64 0, .string (⟨#[]⟩ : ByteArray), .int .i32 0, .bool false, .int .u32 0] 46 (0, 0))) ∧ Aside0 (wc.heap[gb701]? = some (.cells #[.int .i64 7, .string (⟨#[]⟩ : ByteArray), .int .i32 0, .bool ((Go.bits .and .u32 (rd l0 a1) 16) != 0), .int .u32 0] 46 (0, 0))) ∧ Aside0 (Below w.heap.size w wc))
 case first =>
  have H := HC5.out; clear HC5; replace H := Yi H; rcases H with ⟨c10, H⟩ | ⟨c10, H⟩
  ·obtain ⟨c10b0, c10b1⟩ := Ye c10; clear c10
   (first | rw [c10b0] | (simp only [i64_w, i32_w]; rw [c10b0]) | skip)
   have H' := Aside0.mk H; clear H
   go_wp2
   go_meet
   case rel => exact ⟨_, (true), Z2, H', ⟨Z14⟩, ⟨(Z54 BK699)⟩, ⟨(Z55 BK701)⟩, ⟨Z75⟩⟩
  obtain ⟨c10b0, c10b1⟩ := Yn c10
  (first | rw [c10b0] | (simp only [i64_w, i32_w]; rw [c10b0]) | skip)
  have H' := Aside0.mk H; clear H
  go_wp2
  go_meet
  case rel => exact ⟨_, (((Int.tmod (rd l0 a1) 16) == 5)), Z2, H', ⟨Z14⟩, ⟨(Z54 BK699)⟩, ⟨(Z55 BK701)⟩, ⟨Z75⟩⟩
 case rest =>
  clear HC5; (try clear c1); (try clear p2); (try clear c3); (try clear c3b0); (try clear c4); (try clear c4b0); (try clear p7); (try clear q7); (try clear hx7); (try clear c8); (try clear c9); (try clear c10); (try clear c10b0); (try clear c10b1); (try clear hcz9); (try clear hx700_0); (try clear p700); (try clear q700); obtain ⟨kq, x24_4, rfl, HA, HJ4, BK699, BK701, HB⟩ := hcut
  cases kq with
  | zero => exact absurd HA.out (by simp [spec_l04Number.j0])
  | succ kj4 =>
   have H := HA.out; clear HA; simp only [spec_l04Number.j0] at H; have HC11 := Aside0.mk H; clear H
   go_upto_if 24 with (fail)
   go_cut [] (fun wc => ∃ (kq : Nat) (x702000_10 : Int), Aside0 (spec_l04Number.j1 kq l0 a1 (rd l0 a1) (Int.tmod (rd l0 a1) 16) x702000_10 (⟨#[]⟩ : ByteArray) 0 ((Go.bits .and .u32 (rd l0 a1) 16) != 0) 0 = some (r1, r2, r3, r4, r5, r6)) ∧ Aside0 (kq ≤ kj4) ∧ Aside0 (wc.heap[gb699]? = some (.cells #[.int .i64 0, .string (⟨#[]⟩ : ByteArray), .int .i32 0, .bool false, .int .u32 0] 46 (0, 0))) ∧ Aside0 (wc.heap[gb701]? = some (.cells #[.int .i64 x702000_10, .string (⟨#[]⟩ : ByteArray), .int .i32 0, .bool ((Go.bits .and .u32 (rd l0 a1) 16) != 0), .int .u32 0] 46 (0, 0))) ∧ Aside0 (Below w.heap.size w wc))
   case first =>
    have H := HC11.out; clear HC11; by_cases c12 : x24_4 = true
    ·subst c12; replace H := Yt H; have H' := Aside0.mk H; clear H; have hnb13 := NB701_699.out; have hnc13 := NB699_701.out; have hcz14 := Yb5 BK701.out
     go_wp2
     go_meet
     case rel => exact ⟨_, (8), H', ⟨by have := HJ4.out; first | omega | exact Nat.le_refl _⟩, ⟨(Z56 BK699)⟩, ⟨by (with_reducible repeat (first | refine blk_drewN ?_ _ | refine blk_drew ?_ | refine blk_alloc ?_ _)); refine blk_put (cs := #[.int .i64 7, .string (⟨#[]⟩ : ByteArray), .int .i32 0, .bool ((Go.bits .and .u32 (rd l0 a1) 16) != 0), .int .u32 0]) ?_ 0 _ rfl; (with_reducible repeat (first | refine blk_drewN ?_ _ | refine blk_drew ?_ | refine blk_alloc ?_ _)); exact BK701.out⟩, ⟨Z75⟩⟩
    replace c12 := Bool.eq_false_iff.mpr c12; subst c12; replace H := Yf H; have H' := Aside0.mk H; clear H
    go_wp2
    go_meet
    case rel => exact ⟨_, (7), H', ⟨by have := HJ4.out; first | omega | exact Nat.le_refl _⟩, ⟨(Z8 BK699)⟩, ⟨(Z8 BK701)⟩, ⟨Z75⟩⟩
   case rest =>
    clear HC11; (try clear c1); (try clear p2); (try clear c3); (try clear c3b0); (try clear c4); (try clear c4b0); (try clear p7); (try clear q7); (try clear hx7); (try clear c8); (try clear c9); (try clear c10); (try clear c10b0); (try clear c10b1); (try clear c12); (try clear c13); (try clear hcz14); (try clear hcz9); (try clear hx700_0); (try clear p2); (try clear p7); (try clear p700); (try clear q7); (try clear q700); obtain ⟨kq, x702000_10, HA, HJ10, BK699, BK701, HB⟩ := hcut
    cases kq with
    | zero => exact absurd HA.out (by simp [spec_l04Number.j1])
    | succ kj10 =>
     have H := HA.out; clear HA; simp only [spec_l04Number.j1] at H; have HC15 := Aside0.mk H; clear H
     go_upto_region 6 with (fail)
     go_cut [31] (fun v31 wc => ∃ (kq : Nat) (x31_14 : Bool), v31 = .bool x31_14 ∧ Aside0 (spec_l04Number.j2 kq l0 a1 (rd l0 a1) x31_14 x702000_10 (⟨#[]⟩ : ByteArray) 0 ((Go.bits .and .u32 (rd l0 a1) 16) != 0) 0 = some (r1, r2, r3, r4, r5, r6)) ∧ Aside0 (kq ≤ kj10) ∧ Aside0 (wc.heap[gb699]? = some (.cells #[.int .i64 0, .string (⟨#[]⟩ : ByteArray), .int .i32 0, .bool false, .int .u32 0] 46 (0, 0))) ∧ Aside0 (wc.heap[gb701]? = some (.cells #[.int .i64 x702000_10, .string (⟨#[]⟩ : ByteArray), .int .i32 0, .bool ((Go.bits .and .u32 (rd l0 a1) 16) != 0), .int .u32 0] 46 (0, 0))) ∧ Aside0 (Below w.heap.size w wc))
     case first =>
      have H := HC15.out; clear HC15; replace H := Yi H; rcases H with ⟨c16, H⟩ | ⟨c16, H⟩
      ·obtain ⟨c16b0, c16b1⟩ := Ye c16; clear c16
       (first | rw [c16b0] | (simp only [i64_w, i32_w]; rw [c16b0]) | skip)
       have H' := Aside0.mk H; clear H
       go_wp2
       go_meet
       case rel => exact ⟨_, (true), Z2, H', ⟨Z57⟩, ⟨(Z8 BK699)⟩, ⟨(Z8 BK701)⟩, ⟨Z75⟩⟩
      obtain ⟨c16b0, c16b1⟩ := Yn c16
      (first | rw [c16b0] | (simp only [i64_w, i32_w]; rw [c16b0]) | skip)
      have H' := Aside0.mk H; clear H
      go_wp2
      go_meet
      case rel => exact ⟨_, (((Int.tmod (rd l0 a1) 16) == 6)), Z2, H', ⟨Z57⟩, ⟨(Z8 BK699)⟩, ⟨(Z8 BK701)⟩, ⟨Z75⟩⟩
     case rest =>
      clear HC15; (try clear c1); (try clear p2); (try clear c3); (try clear c3b0); (try clear c4); (try clear c4b0); (try clear p7); (try clear q7); (try clear hx7); (try clear c8); (try clear c9); (try clear c10); (try clear c10b0); (try clear c10b1); (try clear c12); (try clear c13); (try clear c16); (try clear c16b0); (try clear c16b1); (try clear hcz14); (try clear hcz9); (try clear hx700_0); (try clear p2); (try clear p7); (try clear p700); (try clear q7); (try clear q700); obtain ⟨kq, x31_14, rfl, HA, HJ14, BK699, BK701, HB⟩ := hcut
      cases kq with
      | zero => exact absurd HA.out (by simp [spec_l04Number.j2])
      | succ kj14 =>
       have H := HA.out; clear HA; simp only [spec_l04Number.j2] at H; by_cases c17 : x31_14 = true
       ·subst c17; replace H := Yt H; simp only [Option.some.injEq, Prod.mk.injEq] at H; obtain ⟨rfl, rfl, rfl, rfl, rfl, rfl⟩ := H; have hnb18 := NB701_699.out; have hnc18 := NB699_701.out; have hcz19 := Yb5 BK701.out; have hcz20 := Yb5 BK699.out
        go_wp2
        refine bodyPost_ret (results_ct rfl _ _ gb699 46 #[.int .i64 x702000_10, .string (⟨#[]⟩ : ByteArray), .int .i32 ((wrap32 ((rd l0 a1))) / 32), .bool ((Go.bits .and .u32 (rd l0 a1) 16) != 0), .int .u32 0] (0, 0) _ rfl (by (with_reducible repeat (first | refine blk_drewN ?_ _ | refine blk_drew ?_ | refine blk_alloc ?_ _)); refine blk_put (cs := #[.int .i64 x702000_10, .string (⟨#[]⟩ : ByteArray), .int .i32 ((wrap32 ((rd l0 a1))) / 32), .bool ((Go.bits .and .u32 (rd l0 a1) 16) != 0), .int .u32 0]) ?_ 4 _ rfl; (with_reducible repeat (first | refine blk_drewN ?_ _ | refine blk_drew ?_ | refine blk_alloc ?_ _)); refine blk_put (cs := #[.int .i64 x702000_10, .string (⟨#[]⟩ : ByteArray), .int .i32 ((wrap32 ((rd l0 a1))) / 32), .bool false, .int .u32 0]) ?_ 3 _ rfl; (with_reducible repeat (first | refine blk_drewN ?_ _ | refine blk_drew ?_ | refine blk_alloc ?_ _)); refine blk_put (cs := #[.int .i64 x702000_10, .string (⟨#[]⟩ : ByteArray), .int .i32 0, .bool false, .int .u32 0]) ?_ 2 _ rfl; (with_reducible repeat (first | refine blk_drewN ?_ _ | refine blk_drew ?_ | refine blk_alloc ?_ _)); refine blk_put (cs := #[.int .i64 x702000_10, .string (⟨#[]⟩ : ByteArray), .int .i32 0, .bool false, .int .u32 0]) ?_ 1 _ rfl; (with_reducible repeat (first | refine blk_drewN ?_ _ | refine blk_drew ?_ | refine blk_alloc ?_ _)); refine blk_put (cs := #[.int .i64 0, .string (⟨#[]⟩ : ByteArray), .int .i32 0, .bool false, .int .u32 0]) ?_ 0 _ rfl; (with_reducible repeat (first | refine blk_drewN ?_ _ | refine blk_drew ?_ | refine blk_alloc ?_ _)); refine blk_far ?_ NB699_701.out _; (with_reducible repeat (first | refine blk_drewN ?_ _ | refine blk_drew ?_ | refine blk_alloc ?_ _)); exact BK699.out) Tryz.underlying46 rfl Z0) rfl ?_
        exact ⟨Z76, Z75⟩
       replace c17 := Bool.eq_false_iff.mpr c17; subst c17; replace H := Yf H; replace H := Yi H; rcases H with ⟨c21, H⟩ | ⟨c21, H⟩
       ·have c21b0 : decide ((l0.length : Int) ≤ (wrap64 (a1 + 1))) = true := decide_eq_true c21; clear c21; simp only [Option.some.injEq, Prod.mk.injEq] at H; obtain ⟨rfl, rfl, rfl, rfl, rfl, rfl⟩ := H; have hnb22 := NB699_701.out; have hnc22 := NB701_699.out; have hcz23 := Yb5 BK699.out
        go_wp2
        refine bodyPost_ret (results_ct rfl _ _ gb699 46 #[.int .i64 0, .string (⟨#[]⟩ : ByteArray), .int .i32 0, .bool false, .int .u32 0] (0, 0) _ rfl (Z31 BK699) Tryz.underlying46 rfl Z0) rfl ?_
        exact ⟨Z76, Z75⟩
       have c21b0 : decide ((l0.length : Int) ≤ (wrap64 (a1 + 1))) = false := decide_eq_false c21; clear c21; replace H := Yi H; rcases H with ⟨c24, H⟩ | ⟨c24, H⟩
       ·obtain ⟨c24b0, c24b1⟩ := Ye c24; clear c24; obtain ⟨ji25, hji25⟩ : ∃ j_ : Int, (wrap64 (a1 + 1)) = j_ := ⟨_, rfl⟩; replace H : (if 0 ≤ (ji25) then (if (ji25) < (l0.length : Int) then ((spec_CellsOf.f kj14 x702000_10 (⟨#[]⟩ : ByteArray) (wrap32 (rd l0 (ji25))) ((Go.bits .and .u32 (rd l0 a1) 16) != 0) 0).bind fun t703 => (some (x702000_10, (⟨#[]⟩ : ByteArray), wrap32 (rd l0 (ji25)), ((Go.bits .and .u32 (rd l0 a1) 16) != 0), 0, wrap64 ((wrap64 ((t703.length : Int) / 2)) * 2)))) else (none)) else (none)) = some (r1, r2, r3, r4, r5, r6) := by first | (rw [hji25] at H; exact H) | (simp only [hji25] at H ⊢; exact H)
        (try rw [hji25] at c21b0)
        have hji25w : (IntKind.i64.wrap (a1 + 1)) = ji25 := (i64_w _).trans hji25; replace H := Yg H; obtain ⟨c26, H⟩ := H; have c26b0 := decide_eq_true c26; clear c26; replace H := Yg H; obtain ⟨c27, H⟩ := H; have c27b0 := decide_eq_true c27; clear c27; replace H := Yd H; obtain ⟨t703, A28, H⟩ := H; (try dsimp only at H); simp only [Option.some.injEq, Prod.mk.injEq] at H; obtain ⟨rfl, rfl, rfl, rfl, rfl, rfl⟩ := H; have p702 : 0 ≤ ((ji25) : Int) := of_decide_eq_true Z5; have q702 : (ji25) < (l0.length : Int) := of_decide_eq_true Z5; obtain ⟨ad702, e702, hx702_0⟩ := Kd.at_int HR0.out (ji25) p702 q702; obtain rfl : ad700 = ad702 := (by injection e702); replace hx702_0 := Yh HB.out hx702_0; replace p702 := eq_true p702; replace q702 := eq_true q702; have hnb29 := NB701_699.out; have hnc29 := NB699_701.out; have hcz30 := Yb5 BK701.out
        try go_wp2
        have n0_ : Aside0 ((wc.setCell ⟨gb701, 2, none⟩ (.int .i32 (wrap32 (rd l0 (ji25))))).heap[gb699]? = some (.cells #[.int .i64 0, .string (⟨#[]⟩ : ByteArray), .int .i32 0, .bool false, .int .u32 0] 46 (0, 0))) := ⟨(Z56 BK699)⟩; have n1_ : Aside0 ((wc.setCell ⟨gb701, 2, none⟩ (.int .i32 (wrap32 (rd l0 (ji25))))).heap[gb701]? = some (.cells #[.int .i64 x702000_10, .string (⟨#[]⟩ : ByteArray), .int .i32 (wrap32 (rd l0 (ji25))), .bool ((Go.bits .and .u32 (rd l0 a1) 16) != 0), .int .u32 0] 46 (0, 0))) := ⟨by (with_reducible repeat (first | refine blk_drewN ?_ _ | refine blk_drew ?_ | refine blk_alloc ?_ _)); refine blk_put (cs := #[.int .i64 x702000_10, .string (⟨#[]⟩ : ByteArray), .int .i32 0, .bool ((Go.bits .and .u32 (rd l0 a1) 16) != 0), .int .u32 0]) ?_ 2 _ rfl; (with_reducible repeat (first | refine blk_drewN ?_ _ | refine blk_drew ?_ | refine blk_alloc ?_ _)); exact BK701.out⟩; have n2_ : Aside0 (Below w.heap.size w (wc.setCell ⟨gb701, 2, none⟩ (.int .i32 (wrap32 (rd l0 (ji25)))))) := ⟨Z75⟩
        (try clear BK699)
        (try clear BK701)
        (try clear HB)
        (try rw [show ∀ (W_ : World) (n_ : Nat) (p_ : Addr) (v_ : Value), (W_.drewN n_).setCell p_ v_ = (W_.setCell p_ v_).drewN n_ from fun _ _ _ _ => rfl])
        generalize (wc.setCell ⟨gb701, 2, none⟩ (.int .i32 (wrap32 (rd l0 (ji25))))) = w31 at n0_ n1_ n2_ ⊢; have BK699 := n0_; have BK701 := n1_; have HB := n2_; clear n0_ n1_ n2_; have n0_ := Z (blk_drew BK699.out); have n1_ := Z (blk_drew BK701.out); have n2_ := Z (below_drew1 HB.out); clear BK699; clear BK701; clear HB; have BK699 := n0_; have BK701 := n1_; have HB := n2_; clear n0_ n1_ n2_; refine start_ (n := 8) (S := fun w' => w'.cell? ⟨gb701, 0, none⟩ = some (.int .i64 x702000_10) ∧ w'.cell? ⟨gb701, 1, none⟩ = some (.string (⟨#[]⟩ : ByteArray)) ∧ w'.cell? ⟨gb701, 2, none⟩ = some (.int .i32 (wrap32 (rd l0 (ji25)))) ∧ w'.cell? ⟨gb701, 3, none⟩ = some (.bool ((Go.bits .and .u32 (rd l0 a1) 16) != 0)) ∧ w'.cell? ⟨gb701, 4, none⟩ = some (.int .u32 0)) (ds := []) #[false, false, false, false, false, false, false, false] Z0 rfl rfl ⟨(blk_cell BK701.out 0).trans rfl, (blk_cell BK701.out 1).trans rfl, (blk_cell BK701.out 2).trans rfl, (blk_cell BK701.out 3).trans rfl, (blk_cell BK701.out 4).trans rfl⟩ (fun hHeld => ?_); refine with_tabW spec_l04Number.tab12 spec_l04Number.bits12 (fun HT_ HW_ => ?_)
        generalize w31.drew = w32 at BK699 BK701 HB hHeld ⊢; refine take_ (i := 0) (N := some 55) (v := ?_) (a' := ?_) #[true, false, false, false, false, false, false, false] rfl rfl (take_ofW HT_.out HW_.out Z0) (fun _ _ _ h => h) (Or.inl ⟨by rfl, ?_⟩) hHeld ?_ ?_
        rotate_left
        ·rintro w' ⟨s0, s1, s2, s3, s4⟩
         go_simp
         with_reducible rfl
        rotate_left
        ·simp only [Act.put, List.setIfInBounds_toArray, List.set_cons_zero, List.set_cons_succ, i64_w, i32_w]
         rfl
        refine take_ (i := 1) (N := some 56) (v := ?_) (a' := ?_) #[true, true, false, false, false, false, false, false] rfl rfl (take_ofW HT_.out HW_.out Z0) (fun _ _ _ h => h) (Or.inl ⟨by rfl, ?_⟩) hHeld ?_ ?_
        rotate_left
        ·rintro w' ⟨s0, s1, s2, s3, s4⟩
         go_simp
         with_reducible rfl
        rotate_left
        ·simp only [Act.put, List.setIfInBounds_toArray, List.set_cons_zero, List.set_cons_succ, i64_w, i32_w]
         rfl
        refine one_ (i := 2) (N := some 57) #[true, true, true, false, false, false, false, false] rfl rfl (one_of HT_.out Z0) (by decide) (fun K hK => ?_)
        refine goes_ Tryz.func37 Z0 rfl #[.agg #[.int .i64 x702000_10, .string (⟨#[]⟩ : ByteArray), .int .i32 (wrap32 (rd l0 (ji25))), .bool ((Go.bits .and .u32 (rd l0 a1) 16) != 0), .int .u32 0]] (by rfl) rfl rfl (by (try simp only [List.map_toArray, List.map_cons, List.map_nil]); first | done | (simp only [hji25]; rfl) | rfl | (simp only [List.length_drop, List.length_take]; rfl)) ?_
        with_reducible refine (spec_CellsOf.calls kj14 x702000_10 (⟨#[]⟩ : ByteArray) (wrap32 (rd l0 (ji25))) ((Go.bits .and .u32 (rd l0 a1) 16) != 0) 0 t703 _ A28.out).mono ?_
        rintro e w33 ⟨v704, rfl, ho0, hb⟩; refine ⟨_, rfl, ?_⟩
        have n0_ := Z (Kd.R_lower ho0 (below_size Z75)); have n1_ := Z (Yk9 BK699 hb); have n2_ := Z (Yk9 BK701 hb); have n3_ := Z (below_step Z75 hb); clear BK699; clear BK701; clear HB; have HO705 := n0_; have BK699 := n1_; have BK701 := n2_; have HB := n3_; clear n0_ n1_ n2_ n3_
        (try clear hb)
        (try clear hb2)
        (try clear hk)
        (try clear hi)
        (try clear ho0)
        obtain ⟨Ao34, co34, eo34⟩ := Kd.R_slice HO705.out
        (first | subst eo34 | (injection eo34 with f1_ f2_ f3_; have f4_ := f1_.symm; have f5_ := f3_.symm; clear f1_ f2_ f3_; subst f4_; subst f5_))
        refine hK.out _ _ ⟨(blk_cell BK701.out 0).trans rfl, (blk_cell BK701.out 1).trans rfl, (blk_cell BK701.out 2).trans rfl, (blk_cell BK701.out 3).trans rfl, (blk_cell BK701.out 4).trans rfl⟩ (fun hHeld => ?_)
        clear hK K; refine norm_ (a' := ?_) ?_ ?_
        rotate_left
        ·show Act.put _ (some 57) _ = _
         simp only [Act.put, List.setIfInBounds_toArray, List.set_cons_zero, List.set_cons_succ, i64_w, i32_w]
         rfl
        refine pure_ (i := 3) (N := some 58) (v := ?_) (a' := ?_) #[true, true, true, true, false, false, false, false] rfl rfl (any_of HT_.out Z0) (fun _ _ _ h => h) (Or.inl ⟨by rfl, ?_⟩) ?_ ?_
        rotate_left
        ·intro w'
         go_simp
         with_reducible rfl
        rotate_left
        ·simp only [Act.put, List.setIfInBounds_toArray, List.set_cons_zero, List.set_cons_succ, i64_w, i32_w]
         rfl
        refine pure_ (i := 4) (N := some 59) (v := ?_) (a' := ?_) #[true, true, true, true, true, false, false, false] rfl rfl (any_of HT_.out Z0) (fun _ _ _ h => h) (Or.inl ⟨by rfl, ?_⟩) ?_ ?_
        rotate_left
        ·intro w'
         go_simp
         with_reducible rfl
        rotate_left
        ·simp only [Act.put, List.setIfInBounds_toArray, List.set_cons_zero, List.set_cons_succ, i64_w, i32_w]
         rfl
        refine pure_ (i := 5) (N := some 60) (v := ?_) (a' := ?_) #[true, true, true, true, true, true, false, false] rfl rfl (any_of HT_.out Z0) (fun _ _ _ h => h) (Or.inl ⟨by rfl, ?_⟩) ?_ ?_
        rotate_left
        ·intro w'
         go_simp
         with_reducible rfl
        rotate_left
        ·simp only [Act.put, List.setIfInBounds_toArray, List.set_cons_zero, List.set_cons_succ, i64_w, i32_w]
         rfl
        refine one_ (i := 6) (N := none) #[true, true, true, true, true, true, true, false] rfl rfl (one_of HT_.out Z0) (by decide) (fun K hK => ?_)
        have hs35 : w33.cell? ⟨gb699, 0, none⟩ = some (.int .i64 0) := (blk_cell BK699.out 0).trans rfl; have hfs35 := blk_frozen BK699.out 0; have hns35_1 := NB701_699.out; have hms35_1 := NB699_701.out; have hs36 : w33.cell? ⟨gb699, 1, none⟩ = some (.string (⟨#[]⟩ : ByteArray)) := (blk_cell BK699.out 1).trans rfl; have hfs36 := blk_frozen BK699.out 1; have hns36_1 := NB701_699.out; have hms36_1 := NB699_701.out; have hs37 : w33.cell? ⟨gb699, 2, none⟩ = some (.int .i32 0) := (blk_cell BK699.out 2).trans rfl; have hfs37 := blk_frozen BK699.out 2; have hns37_1 := NB701_699.out; have hms37_1 := NB699_701.out; have hs38 : w33.cell? ⟨gb699, 3, none⟩ = some (.bool false) := (blk_cell BK699.out 3).trans rfl; have hfs38 := blk_frozen BK699.out 3; have hns38_1 := NB701_699.out; have hms38_1 := NB699_701.out; have hs39 : w33.cell? ⟨gb699, 4, none⟩ = some (.int .u32 0) := (blk_cell BK699.out 4).trans rfl; have hfs39 := blk_frozen BK699.out 4; have hns39_1 := NB701_699.out; have hms39_1 := NB699_701.out; refine skip_ (w1 := ?_) (by rfl) rfl ?_ ?_
        rotate_left
        ·go_simp
         rfl
        refine hK.out _ _ ⟨((cell_far (p := ⟨gb699, _, none⟩) NB701_699.out _).trans (((cell_far (p := ⟨gb699, _, none⟩) NB701_699.out _).trans (((cell_far (p := ⟨gb699, _, none⟩) NB701_699.out _).trans (((cell_far (p := ⟨gb699, _, none⟩) NB701_699.out _).trans (((cell_far (p := ⟨gb699, _, none⟩) NB701_699.out _).trans (hHeld.1)))))))))), ((cell_far (p := ⟨gb699, _, none⟩) NB701_699.out _).trans (((cell_far (p := ⟨gb699, _, none⟩) NB701_699.out _).trans (((cell_far (p := ⟨gb699, _, none⟩) NB701_699.out _).trans (((cell_far (p := ⟨gb699, _, none⟩) NB701_699.out _).trans (((cell_far (p := ⟨gb699, _, none⟩) NB701_699.out _).trans (hHeld.2.1)))))))))), ((cell_far (p := ⟨gb699, _, none⟩) NB701_699.out _).trans (((cell_far (p := ⟨gb699, _, none⟩) NB701_699.out _).trans (((cell_far (p := ⟨gb699, _, none⟩) NB701_699.out _).trans (((cell_far (p := ⟨gb699, _, none⟩) NB701_699.out _).trans (((cell_far (p := ⟨gb699, _, none⟩) NB701_699.out _).trans (hHeld.2.2.1)))))))))), ((cell_far (p := ⟨gb699, _, none⟩) NB701_699.out _).trans (((cell_far (p := ⟨gb699, _, none⟩) NB701_699.out _).trans (((cell_far (p := ⟨gb699, _, none⟩) NB701_699.out _).trans (((cell_far (p := ⟨gb699, _, none⟩) NB701_699.out _).trans (((cell_far (p := ⟨gb699, _, none⟩) NB701_699.out _).trans (hHeld.2.2.2.1)))))))))), ((cell_far (p := ⟨gb699, _, none⟩) NB701_699.out _).trans (((cell_far (p := ⟨gb699, _, none⟩) NB701_699.out _).trans (((cell_far (p := ⟨gb699, _, none⟩) NB701_699.out _).trans (((cell_far (p := ⟨gb699, _, none⟩) NB701_699.out _).trans (((cell_far (p := ⟨gb699, _, none⟩) NB701_699.out _).trans (hHeld.2.2.2.2))))))))))⟩ (fun hHeld => ?_)
        clear hK K; refine pure_ (i := 7) (N := some 5) (v := ?_) (a' := ?_) #[true, true, true, true, true, true, true, true] rfl rfl (any_of HT_.out Z0) (fun _ _ _ h => h) (Or.inl ⟨by rfl, ?_⟩) ?_ ?_
        rotate_left
        ·intro w'
         go_simp
         with_reducible rfl
        rotate_left
        ·simp only [Act.put, List.setIfInBounds_toArray, List.set_cons_zero, List.set_cons_succ, i64_w, i32_w]
         rfl
        refine done_ (done_of HT_.out Z0) ?_
        try go_wp2
        refine bodyPost_ret (results_ct rfl _ _ gb699 46 #[.int .i64 x702000_10, .string (⟨#[]⟩ : ByteArray), .int .i32 (wrap32 (rd l0 (ji25))), .bool ((Go.bits .and .u32 (rd l0 a1) 16) != 0), .int .u32 0] (0, 0) _ rfl (by (with_reducible repeat (first | refine blk_drewN ?_ _ | refine blk_drew ?_ | refine blk_alloc ?_ _)); refine blk_put (cs := #[.int .i64 x702000_10, .string (⟨#[]⟩ : ByteArray), .int .i32 (wrap32 (rd l0 (ji25))), .bool ((Go.bits .and .u32 (rd l0 a1) 16) != 0), .int .u32 0]) ?_ 4 _ rfl; (with_reducible repeat (first | refine blk_drewN ?_ _ | refine blk_drew ?_ | refine blk_alloc ?_ _)); refine blk_put (cs := #[.int .i64 x702000_10, .string (⟨#[]⟩ : ByteArray), .int .i32 (wrap32 (rd l0 (ji25))), .bool false, .int .u32 0]) ?_ 3 _ rfl; (with_reducible repeat (first | refine blk_drewN ?_ _ | refine blk_drew ?_ | refine blk_alloc ?_ _)); refine blk_put (cs := #[.int .i64 x702000_10, .string (⟨#[]⟩ : ByteArray), .int .i32 0, .bool false, .int .u32 0]) ?_ 2 _ rfl; (with_reducible repeat (first | refine blk_drewN ?_ _ | refine blk_drew ?_ | refine blk_alloc ?_ _)); refine blk_put (cs := #[.int .i64 x702000_10, .string (⟨#[]⟩ : ByteArray), .int .i32 0, .bool false, .int .u32 0]) ?_ 1 _ rfl; (with_reducible repeat (first | refine blk_drewN ?_ _ | refine blk_drew ?_ | refine blk_alloc ?_ _)); refine blk_put (cs := #[.int .i64 0, .string (⟨#[]⟩ : ByteArray), .int .i32 0, .bool false, .int .u32 0]) ?_ 0 _ rfl; (with_reducible repeat (first | refine blk_drewN ?_ _ | refine blk_drew ?_ | refine blk_alloc ?_ _)); exact BK699.out) Tryz.underlying46 rfl Z0) rfl ?_
        exact ⟨by first | rfl | (rw [← show ∀ l_ : List UInt8, (!l_.isEmpty) = (l_ != []) from fun l_ => Z9]; rfl) | (simp [errW_none, errW_some] <;> rfl) | (simp only [← hji25]; first | rfl | (simp [errW_none, errW_some] <;> rfl)) | (simp [*, errW_none, errW_some] <;> rfl), Z75⟩
       obtain ⟨c24b0, c24b1⟩ := Yn c24; simp only [Option.some.injEq, Prod.mk.injEq] at H; obtain ⟨rfl, rfl, rfl, rfl, rfl, rfl⟩ := H; have hnb40 := NB699_701.out; have hnc40 := NB701_699.out; have hcz41 := Yb5 BK699.out
       go_wp2
       refine bodyPost_ret (results_ct rfl _ _ gb699 46 #[.int .i64 0, .string (⟨#[]⟩ : ByteArray), .int .i32 0, .bool false, .int .u32 0] (0, 0) _ rfl (Z31 BK699) Tryz.underlying46 rfl Z0) rfl ?_
       exact ⟨Z76, Z75⟩

def spec_FieldOk.f (k : Nat) (a0 : Int) : Option (Bool) := (spec_UnpackOne.f k a0).bind fun t706 => ((spec_Pack.f k t706).bind fun t707 => (if (t707.length : Int) = 1 then (if 0 < (t707.length : Int) then (some ((rd t707 0) == a0)) else (none)) else (some false)))
theorem spec_FieldOk.calls (k : Nat) (a0 : Int) (r : Bool) (w : World) (h : spec_FieldOk.f k a0 = some r) :
  Calls Tryz.prog 93 #[.int .u32 a0] w fun e w' => e = .returned (.bool r) ∧ Below w.heap.size w w' := by
 have HB := Z (Below.refl w.heap.size w); unfold spec_FieldOk.f at h; have H := h; clear h; replace H := Yd H; obtain ⟨t706, A2, H⟩ := H; (try dsimp only at H); replace H := Yd H; obtain ⟨t707, A3, H⟩ := H; (try dsimp only at H); replace H := Yi H; rcases H with ⟨c4, H⟩ | ⟨c4, H⟩
 ·obtain ⟨c4b0, c4b1⟩ := Ye c4; clear c4; replace H := Yg H; obtain ⟨c5, H⟩ := H; have c5b0 := decide_eq_true c5; have c5b1 : decide (0 < t707.length) = true := decide_eq_true (by omega); clear c5; obtain rfl := Option.some.inj H; go_enter Tryz.func93, Tryz.ntmps93
  go_wp2_with (first | ((with_reducible refine gate_callee (f := 94) rfl ?_); refine goesL_ (some 5) rfl rfl Tryz.func94 Z0 rfl #[.int .u32 a0] rfl Z10 ?_; (with_reducible refine (spec_UnpackOne.calls k a0 t706 _ A2.out).mono ?_); rintro e w6 ⟨rfl, hb⟩; refine ⟨_, rfl, ?_⟩; replace HB := Z (below_step Z75 hb); (try clear hb); (try clear hb2); (try clear hk); (try clear hi)) | ((with_reducible refine gate_callee (f := 97) rfl ?_); refine goesL_ (some 6) rfl rfl Tryz.func97 Z0 rfl #[.string t706] rfl Z10 ?_; (with_reducible refine (spec_Pack.calls k t706 t707 _ A3.out).mono ?_); rintro e w7 ⟨v708, rfl, ho0, hb⟩; refine ⟨_, rfl, ?_⟩; have HO709 := Z (Kd.R_lower ho0 (below_size Z75)); replace HB := Z (below_step Z75 hb); (try clear hb); (try clear hb2); (try clear hk); (try clear hi); (try clear ho0); obtain ⟨Ao8, co8, eo8⟩ := Kd.R_slice HO709.out; subst eo8; have p710 : 0 ≤ (0 : Int) := (by omega); have q710 : 0 < (t707.length : Int) := of_decide_eq_true Z5; obtain ⟨ad710, e710, hx710_0⟩ := Kd.at_int (Kd.R_reads' HO709.out).2.2 0 p710 q710; cases e710; have qi710 : (0 < t707.length) = True := eq_true (by omega); (try rw [show ((0 : Int)).toNat = 0 from rfl] at hx710_0); (try rw [Addr.add_zero'] at hx710_0); replace p710 := eq_true p710; replace q710 := eq_true q710))
  go_ret
  exact ⟨Z76, Z75⟩
 obtain ⟨c4b0, c4b1⟩ := Yn c4; obtain rfl := Option.some.inj H; go_enter Tryz.func93, Tryz.ntmps93
 go_wp2_with (first | ((with_reducible refine gate_callee (f := 94) rfl ?_); refine goesL_ (some 5) rfl rfl Tryz.func94 Z0 rfl #[.int .u32 a0] rfl Z10 ?_; (with_reducible refine (spec_UnpackOne.calls k a0 t706 _ A2.out).mono ?_); rintro e w9 ⟨rfl, hb⟩; refine ⟨_, rfl, ?_⟩; replace HB := Z (below_step Z75 hb); (try clear hb); (try clear hb2); (try clear hk); (try clear hi)) | ((with_reducible refine gate_callee (f := 97) rfl ?_); refine goesL_ (some 6) rfl rfl Tryz.func97 Z0 rfl #[.string t706] rfl Z10 ?_; (with_reducible refine (spec_Pack.calls k t706 t707 _ A3.out).mono ?_); rintro e w10 ⟨v708, rfl, ho0, hb⟩; refine ⟨_, rfl, ?_⟩; have HO709 := Z (Kd.R_lower ho0 (below_size Z75)); replace HB := Z (below_step Z75 hb); (try clear hb); (try clear hb2); (try clear hk); (try clear hi); (try clear ho0); obtain ⟨Ao11, co11, eo11⟩ := Kd.R_slice HO709.out; subst eo11))
 go_ret
 exact ⟨Z76, Z75⟩

mutual
def spec_l04Item.j0 : Nat → List Int → Int → Int → Int → Bool → Int → ByteArray → Int → Bool → Int → Option (Int × ByteArray × Int × Bool × Int × Int)
 | 0, _, _, _, _, _, _, _, _, _, _ => none
 | k + 1, x0, x1, x7, x8, x27, x713000, x713001, x713002, x713003, x713004 => if x27 = true then ((spec_l04Number.f k x0 x1).bind fun bt723 => (if bt723.2.2.2.2.2 = 0 then (if 0 ≤ x1 then (if x1 < (x0.length : Int) then (some (0, (⟨#[]⟩ : ByteArray), 0, false, rd x0 x1, 1)) else (none)) else (none)) else (some (bt723.1, bt723.2.1, bt723.2.2.1, bt723.2.2.2.1, bt723.2.2.2.2.1, bt723.2.2.2.2.2)))) else (if x8 = 12 then (if (wrap64 (x1 + 1)) < (x0.length : Int) then (if 0 ≤ x1 then (if x1 < (x0.length : Int) then ((spec_FieldOk.f k ((Int.tdiv (rd x0 x1) 16) % 4294967296)).bind fun t731 => (spec_l04Item.j1 k x0 x1 x7 t731 x713000 x713001 x713002 x713003 x713004)) else (none)) else (none)) else (spec_l04Item.j1 k x0 x1 x7 false x713000 x713001 x713002 x713003 x713004)) else (spec_l04Item.j1 k x0 x1 x7 false x713000 x713001 x713002 x713003 x713004))
def spec_l04Item.j1 : Nat → List Int → Int → Int → Bool → Int → ByteArray → Int → Bool → Int → Option (Int × ByteArray × Int × Bool × Int × Int)
 | 0, _, _, _, _, _, _, _, _, _ => none
 | k + 1, x0, x1, x7, x48, x713000, x713001, x713002, x713003, x713004 => if x48 = true then (if 0 ≤ x1 then (if x1 < (x0.length : Int) then ((spec_UnpackOne.f k ((Int.tdiv (rd x0 x1) 16) % 4294967296)).bind fun t733 => (if 0 ≤ (wrap64 (x1 + 1)) then (if (wrap64 (x1 + 1)) < (x0.length : Int) then (if 2 = 0 then (some (0, (⟨#[]⟩ : ByteArray), 0, false, rd x0 x1, 1)) else (some (9, t733, wrap32 (rd x0 (wrap64 (x1 + 1))), false, 0, 2))) else (none)) else (none))) else (none)) else (none)) else (if x7 = 0 then (if 0 ≤ x1 then (if x1 < (x0.length : Int) then (some (0, (⟨#[]⟩ : ByteArray), 0, false, rd x0 x1, 1)) else (none)) else (none)) else (some (x713000, x713001, x713002, x713003, x713004, x7)))
end
def spec_l04Item.f (k : Nat) (l0 : List Int) (a1 : Int) : Option (Int × ByteArray × Int × Bool × Int × Int) := if 0 ≤ a1 then (if a1 < (l0.length : Int) then ((spec_l04Kind.f k (Int.tmod (rd l0 a1) 16)).bind fun t714 => (if t714 ≥ 0 then ((spec_l04Kind.f k (Int.tmod (rd l0 a1) 16)).bind fun t715 => ((spec_l04Name.f k l0 a1 t715).bind fun bt716 => (if bt716.2.2.2.2.2 = 0 then (some (0, (⟨#[]⟩ : ByteArray), 0, false, rd l0 a1, 1)) else (some (bt716.1, bt716.2.1, bt716.2.2.1, bt716.2.2.2.1, bt716.2.2.2.2.1, bt716.2.2.2.2.2))))) else (if (Int.tmod (rd l0 a1) 16) = 8 then (spec_l04Item.j0 k l0 a1 0 (Int.tmod (rd l0 a1) 16) true 0 (⟨#[]⟩ : ByteArray) 0 false 0) else (if (Int.tmod (rd l0 a1) 16) = 6 then (spec_l04Item.j0 k l0 a1 0 (Int.tmod (rd l0 a1) 16) true 0 (⟨#[]⟩ : ByteArray) 0 false 0) else (if (Int.tmod (rd l0 a1) 16) = 2 then (spec_l04Item.j0 k l0 a1 0 (Int.tmod (rd l0 a1) 16) true 0 (⟨#[]⟩ : ByteArray) 0 false 0) else (spec_l04Item.j0 k l0 a1 0 (Int.tmod (rd l0 a1) 16) ((Int.tmod (rd l0 a1) 16) == 5) 0 (⟨#[]⟩ : ByteArray) 0 false 0)))))) else (none)) else (none)
def spec_l04Item.T8 : Bool × List (List Nat × List Nat) := (true, [([], []), ([], []), ([0, 1], [0, 1]), ([2], [2]), ([3], [3]), ([4], [4]), ([], []), ([], []), ([7], [7]), ([6, 8], [6, 8]), ([9], [9]), ([10], [10]), ([5, 11], [5, 11]), ([12, 5, 0, 1, 2, 3, 4, 5, 6, 7, 8, 9, 10, 11, 12], [12]), ([13, 0, 1, 2, 3, 4, 5, 6, 7, 8, 9, 10, 11, 12, 13], [])])
def spec_l04Item.B8 : List Nat := [0, 0, 3, 7, 15, 31, 0, 0, 128, 448, 960, 1984, 4095, 8191, 16383]
theorem spec_l04Item.tab8 : rtab .any (opsOf Tryz.f56 8) = spec_l04Item.T8 := Z0
theorem spec_l04Item.bits8 : waitsOk spec_l04Item.T8.2 spec_l04Item.B8 = true := Z0
theorem spec_l04Item.calls (k : Nat) (A0 : Option Addr) (c0 : Nat) (l0 : List Int) (a1 : Int) (r1 : Int) (r2 : ByteArray) (r3 : Int) (r4 : Bool) (r5 : Int) (r6 : Int) (w : World) (hr0 : Kd.C (Kd.int .u32) w A0 l0.length l0) (hc0 : l0.length ≤ c0) (h : spec_l04Item.f k l0 a1 = some (r1, r2, r3, r4, r5, r6)) :
  Calls Tryz.prog 56 #[.slice A0 l0.length c0, .int .i64 a1] w fun e w' => e = .returned (.tuple #[.agg #[.int .i64 r1, .string r2, .int .i32 r3, .bool r4, .int .u32 r5], .int .i64 r6]) ∧ Below w.heap.size w w' := by
 have hu46 := Tryz.underlying46; have HR0 := Aside0.mk hr0; have HC0 := Aside0.mk hc0; clear hr0 hc0; have HB := Z (Below.refl w.heap.size w); unfold spec_l04Item.f at h; have H := h; clear h; replace H := Yg H; obtain ⟨c3, H⟩ := H; have c3b0 := decide_eq_true c3; clear c3; replace H := Yg H; obtain ⟨c4, H⟩ := H; have c4b0 := decide_eq_true c4; clear c4; replace H := Yd H; obtain ⟨t714, A5, H⟩ := H; (try dsimp only at H); replace H := Yi H; rcases H with ⟨c6, H⟩ | ⟨c6, H⟩
 ·have c6b0 : decide (0 ≤ t714) = true := decide_eq_true c6; clear c6; replace H := Yd H; obtain ⟨t715, A7, H⟩ := H; (try dsimp only at H); replace H := Yd H; obtain ⟨⟨t716, t717, t718, t719, t720, t721⟩, A8, H⟩ := H; (try dsimp only at H); replace H := Yi H; rcases H with ⟨c9, H⟩ | ⟨c9, H⟩
  ·obtain ⟨c9b0, c9b1⟩ := Ye c9; clear c9; simp only [Option.some.injEq, Prod.mk.injEq] at H; obtain ⟨rfl, rfl, rfl, rfl, rfl, rfl⟩ := H; go_enter Tryz.func56, Tryz.ntmps56
   go_wp2_with (first | ((with_reducible refine gate_dst (N := 4) rfl ?_); (try (refine gate_guard (by rfl) ?_; dsimp only)); refine box_event (by rfl) (N := 4) (by rfl) (cs := #[.int .i64 0, .string (⟨#[]⟩ : ByteArray), .int .i32 0, .bool false, .int .u32 0]) (t := 46) Z7 ?_; intro gb711 hg w10 hbox hb; have BK711 := Z (hbox); have GW711 := Z ((Z99 : w.heap.size ≤ gb711)); have GE711 := Z ((Z99 : w.heap.size ≤ gb711)); replace HB := Z (below_step Z75 hb); clear hb hbox hg) | ((with_reducible refine gate_dst (N := 6) rfl ?_); (try (refine gate_guard (by rfl) ?_; dsimp only)); refine box_event (by rfl) (N := 6) (by rfl) (cs := #[.int .i64 0, .string (⟨#[]⟩ : ByteArray), .int .i32 0, .bool false, .int .u32 0]) (t := 46) Z7 ?_; intro gb712 hg w11 hbox hb; have BK712 := Z (hbox); have GW712 := Z ((Z99 : w.heap.size ≤ gb712)); have GE712 := Z ((Z99 : w.heap.size ≤ gb712)); replace HB := Z (below_step Z75 hb); have NB711_712 := Z ((Z94 : gb711 ≠ gb712)); have NB712_711 := Z ((Z95 : gb712 ≠ gb711)); replace BK711 := Z (Yk9 BK711 hb); clear hb hbox hg; have hnb12 := NB712_711.out; have hnc12 := NB711_712.out; have hcz13 := Yb5 BK712.out; have p713 : 0 ≤ (a1 : Int) := of_decide_eq_true Z5; have q713 : a1 < (l0.length : Int) := of_decide_eq_true Z5; obtain ⟨ad713, e713, hx713_0⟩ := Kd.at_int HR0.out a1 p713 q713; cases e713; have hn713_0 : ad713.block ≠ gb712 := Nat.ne_of_lt (Nat.lt_of_lt_of_le Z58 GW712.out); have hn713_1 : ad713.block ≠ gb712 := Nat.ne_of_lt (Nat.lt_of_lt_of_le Z58 GW712.out); have hn713_2 : ad713.block ≠ gb712 := Nat.ne_of_lt (Nat.lt_of_lt_of_le Z58 GW712.out); have hn713_3 : ad713.block ≠ gb712 := Nat.ne_of_lt (Nat.lt_of_lt_of_le Z58 GW712.out); have hn713_4 : ad713.block ≠ gb712 := Nat.ne_of_lt (Nat.lt_of_lt_of_le Z58 GW712.out); replace hx713_0 := Yh HB.out hx713_0; replace hx713_0 := (cell_far (p := ⟨gb712, 0, none⟩) Z59 (.int .i64 0)).trans hx713_0; replace hx713_0 := (cell_far (p := ⟨gb712, 1, none⟩) Z60 (.string (⟨#[]⟩ : ByteArray))).trans hx713_0; replace hx713_0 := (cell_far (p := ⟨gb712, 2, none⟩) Z61 (.int .i32 0)).trans hx713_0; replace hx713_0 := (cell_far (p := ⟨gb712, 3, none⟩) Z62 (.bool false)).trans hx713_0; replace hx713_0 := (cell_far (p := ⟨gb712, 4, none⟩) Z63 (.int .u32 0)).trans hx713_0; clear hn713_0; clear hn713_1; clear hn713_2; clear hn713_3; clear hn713_4; replace p713 := eq_true p713; replace q713 := eq_true q713) | ((with_reducible refine gate_callee (f := 90) rfl ?_); refine goesL_ (some 17) rfl rfl Tryz.func90 Z0 rfl #[.int .u32 (Int.tmod (rd l0 a1) 16)] rfl Z10 ?_; (with_reducible refine (spec_l04Kind.calls k (Int.tmod (rd l0 a1) 16) t714 _ A5.out).mono ?_); rintro e w' ⟨rfl, ⟨nd, rfl⟩⟩; refine ⟨_, rfl, ?_⟩) | ((with_reducible refine gate_callee (f := 90) rfl ?_); refine goesL_ (some 23) rfl rfl Tryz.func90 Z0 rfl #[.int .u32 (Int.tmod (rd l0 a1) 16)] rfl Z10 ?_; (with_reducible refine (spec_l04Kind.calls k (Int.tmod (rd l0 a1) 16) t715 _ A7.out).mono ?_); rintro e w' ⟨rfl, ⟨nd, rfl⟩⟩; refine ⟨_, rfl, ?_⟩) | ((with_reducible refine gate_callee (f := 91) rfl ?_); refine goesL_ (some 24) rfl rfl Tryz.func91 Z0 rfl #[.slice (some ad713) l0.length c0, .int .i64 a1, .int .i64 t715] rfl Z10 ?_; (with_reducible refine (spec_l04Name.calls k _ _ l0 a1 t715 t716 t717 t718 t719 t720 t721 _ ?side1 ?side2 A8.out).mono ?_); (case side1 => exact Kd.C_below HR0.out Z75); (case side2 => exact HC0.out); rintro e w14 ⟨rfl, hb⟩; refine ⟨_, rfl, ?_⟩; replace BK711 := Z (Yk9 BK711 hb); replace BK712 := Z (blk_below (g := gb712) (o := .cells #[.int .i64 0, .string (⟨#[]⟩ : ByteArray), .int .i32 0, .bool false, .int .u32 0] 46 (0, 0)) (Z31 BK712) hb); replace HB := Z (below_step Z75 hb); (try clear hb); (try clear hb2); (try clear hk); (try clear hi); have hcz15 := Yb5 BK712.out; have p722 : 0 ≤ (a1 : Int) := of_decide_eq_true Z5; have q722 : a1 < (l0.length : Int) := of_decide_eq_true Z5; obtain ⟨ad722, e722, hx722_0⟩ := Kd.at_int HR0.out a1 p722 q722; obtain rfl : ad713 = ad722 := (by injection e722); have hn722_0 : ad713.block ≠ gb712 := Nat.ne_of_lt (Nat.lt_of_lt_of_le Z64 GW712.out); have hn722_1 : ad713.block ≠ gb712 := Nat.ne_of_lt (Nat.lt_of_lt_of_le Z64 GW712.out); have hn722_2 : ad713.block ≠ gb712 := Nat.ne_of_lt (Nat.lt_of_lt_of_le Z64 GW712.out); have hn722_3 : ad713.block ≠ gb712 := Nat.ne_of_lt (Nat.lt_of_lt_of_le Z64 GW712.out); have hn722_4 : ad713.block ≠ gb712 := Nat.ne_of_lt (Nat.lt_of_lt_of_le Z64 GW712.out); replace hx722_0 := Yh HB.out hx722_0; replace hx722_0 := (cell_far (p := ⟨gb712, 0, none⟩) (by first | (rw [add_block]; exact hn722_0) | (show (Addr.add _ _).block ≠ _; rw [add_block]; exact hn722_0) | exact hn722_0) (.int .i64 t716)).trans hx722_0; replace hx722_0 := (cell_far (p := ⟨gb712, 1, none⟩) (by first | (rw [add_block]; exact hn722_1) | (show (Addr.add _ _).block ≠ _; rw [add_block]; exact hn722_1) | exact hn722_1) (.string t717)).trans hx722_0; replace hx722_0 := (cell_far (p := ⟨gb712, 2, none⟩) (by first | (rw [add_block]; exact hn722_2) | (show (Addr.add _ _).block ≠ _; rw [add_block]; exact hn722_2) | exact hn722_2) (.int .i32 t718)).trans hx722_0; replace hx722_0 := (cell_far (p := ⟨gb712, 3, none⟩) (by first | (rw [add_block]; exact hn722_3) | (show (Addr.add _ _).block ≠ _; rw [add_block]; exact hn722_3) | exact hn722_3) (.bool t719)).trans hx722_0; replace hx722_0 := (cell_far (p := ⟨gb712, 4, none⟩) (by first | (rw [add_block]; exact hn722_4) | (show (Addr.add _ _).block ≠ _; rw [add_block]; exact hn722_4) | exact hn722_4) (.int .u32 t720)).trans hx722_0; clear hn722_0; clear hn722_1; clear hn722_2; clear hn722_3; clear hn722_4; replace p722 := eq_true p722; replace q722 := eq_true q722; have hcz16 := Yb5 BK711.out))
   refine bodyPost_ret (results_ct rfl _ _ gb711 46 #[.int .i64 0, .string (⟨#[]⟩ : ByteArray), .int .i32 0, .bool false, .int .u32 (rd l0 a1)] (0, 0) _ rfl (Z65 BK711) Tryz.underlying46 rfl Z0) rfl ?_
   exact ⟨Z76, Z75⟩
  obtain ⟨c9b0, c9b1⟩ := Yn c9; simp only [Option.some.injEq, Prod.mk.injEq] at H; obtain ⟨rfl, rfl, rfl, rfl, rfl, rfl⟩ := H; go_enter Tryz.func56, Tryz.ntmps56
  go_wp2_with (first | ((with_reducible refine gate_dst (N := 4) rfl ?_); (try (refine gate_guard (by rfl) ?_; dsimp only)); refine box_event (by rfl) (N := 4) (by rfl) (cs := #[.int .i64 0, .string (⟨#[]⟩ : ByteArray), .int .i32 0, .bool false, .int .u32 0]) (t := 46) Z7 ?_; intro gb711 hg w17 hbox hb; have BK711 := Z (hbox); have GW711 := Z ((Z99 : w.heap.size ≤ gb711)); have GE711 := Z ((Z99 : w.heap.size ≤ gb711)); replace HB := Z (below_step Z75 hb); clear hb hbox hg) | ((with_reducible refine gate_dst (N := 6) rfl ?_); (try (refine gate_guard (by rfl) ?_; dsimp only)); refine box_event (by rfl) (N := 6) (by rfl) (cs := #[.int .i64 0, .string (⟨#[]⟩ : ByteArray), .int .i32 0, .bool false, .int .u32 0]) (t := 46) Z7 ?_; intro gb712 hg w18 hbox hb; have BK712 := Z (hbox); have GW712 := Z ((Z99 : w.heap.size ≤ gb712)); have GE712 := Z ((Z99 : w.heap.size ≤ gb712)); replace HB := Z (below_step Z75 hb); have NB711_712 := Z ((Z94 : gb711 ≠ gb712)); have NB712_711 := Z ((Z95 : gb712 ≠ gb711)); replace BK711 := Z (Yk9 BK711 hb); clear hb hbox hg; have hnb19 := NB712_711.out; have hnc19 := NB711_712.out; have hcz20 := Yb5 BK712.out; have p713 : 0 ≤ (a1 : Int) := of_decide_eq_true Z5; have q713 : a1 < (l0.length : Int) := of_decide_eq_true Z5; obtain ⟨ad713, e713, hx713_0⟩ := Kd.at_int HR0.out a1 p713 q713; cases e713; have hn713_0 : ad713.block ≠ gb712 := Nat.ne_of_lt (Nat.lt_of_lt_of_le Z58 GW712.out); have hn713_1 : ad713.block ≠ gb712 := Nat.ne_of_lt (Nat.lt_of_lt_of_le Z58 GW712.out); have hn713_2 : ad713.block ≠ gb712 := Nat.ne_of_lt (Nat.lt_of_lt_of_le Z58 GW712.out); have hn713_3 : ad713.block ≠ gb712 := Nat.ne_of_lt (Nat.lt_of_lt_of_le Z58 GW712.out); have hn713_4 : ad713.block ≠ gb712 := Nat.ne_of_lt (Nat.lt_of_lt_of_le Z58 GW712.out); replace hx713_0 := Yh HB.out hx713_0; replace hx713_0 := (cell_far (p := ⟨gb712, 0, none⟩) Z59 (.int .i64 0)).trans hx713_0; replace hx713_0 := (cell_far (p := ⟨gb712, 1, none⟩) Z60 (.string (⟨#[]⟩ : ByteArray))).trans hx713_0; replace hx713_0 := (cell_far (p := ⟨gb712, 2, none⟩) Z61 (.int .i32 0)).trans hx713_0; replace hx713_0 := (cell_far (p := ⟨gb712, 3, none⟩) Z62 (.bool false)).trans hx713_0; replace hx713_0 := (cell_far (p := ⟨gb712, 4, none⟩) Z63 (.int .u32 0)).trans hx713_0; clear hn713_0; clear hn713_1; clear hn713_2; clear hn713_3; clear hn713_4; replace p713 := eq_true p713; replace q713 := eq_true q713) | ((with_reducible refine gate_callee (f := 90) rfl ?_); refine goesL_ (some 17) rfl rfl Tryz.func90 Z0 rfl #[.int .u32 (Int.tmod (rd l0 a1) 16)] rfl Z10 ?_; (with_reducible refine (spec_l04Kind.calls k (Int.tmod (rd l0 a1) 16) t714 _ A5.out).mono ?_); rintro e w' ⟨rfl, ⟨nd, rfl⟩⟩; refine ⟨_, rfl, ?_⟩) | ((with_reducible refine gate_callee (f := 90) rfl ?_); refine goesL_ (some 23) rfl rfl Tryz.func90 Z0 rfl #[.int .u32 (Int.tmod (rd l0 a1) 16)] rfl Z10 ?_; (with_reducible refine (spec_l04Kind.calls k (Int.tmod (rd l0 a1) 16) t715 _ A7.out).mono ?_); rintro e w' ⟨rfl, ⟨nd, rfl⟩⟩; refine ⟨_, rfl, ?_⟩) | ((with_reducible refine gate_callee (f := 91) rfl ?_); refine goesL_ (some 24) rfl rfl Tryz.func91 Z0 rfl #[.slice (some ad713) l0.length c0, .int .i64 a1, .int .i64 t715] rfl Z10 ?_; (with_reducible refine (spec_l04Name.calls k _ _ l0 a1 t715 t716 t717 t718 t719 t720 t721 _ ?side1 ?side2 A8.out).mono ?_); (case side1 => exact Kd.C_below HR0.out Z75); (case side2 => exact HC0.out); rintro e w21 ⟨rfl, hb⟩; refine ⟨_, rfl, ?_⟩; replace BK711 := Z (Yk9 BK711 hb); replace BK712 := Z (blk_below (g := gb712) (o := .cells #[.int .i64 0, .string (⟨#[]⟩ : ByteArray), .int .i32 0, .bool false, .int .u32 0] 46 (0, 0)) (Z31 BK712) hb); replace HB := Z (below_step Z75 hb); (try clear hb); (try clear hb2); (try clear hk); (try clear hi); have hcz22 := Yb5 BK712.out; have hcz23 := Yb5 BK711.out))
  refine bodyPost_ret (results_ct rfl _ _ gb711 46 #[.int .i64 t716, .string t717, .int .i32 t718, .bool t719, .int .u32 t720] (0, 0) _ rfl (by (with_reducible repeat (first | refine blk_drewN ?_ _ | refine blk_drew ?_ | refine blk_alloc ?_ _)); refine blk_put (cs := #[.int .i64 t716, .string t717, .int .i32 t718, .bool t719, .int .u32 0]) ?_ 4 _ rfl; (with_reducible repeat (first | refine blk_drewN ?_ _ | refine blk_drew ?_ | refine blk_alloc ?_ _)); refine blk_put (cs := #[.int .i64 t716, .string t717, .int .i32 t718, .bool false, .int .u32 0]) ?_ 3 _ rfl; (with_reducible repeat (first | refine blk_drewN ?_ _ | refine blk_drew ?_ | refine blk_alloc ?_ _)); refine blk_put (cs := #[.int .i64 t716, .string t717, .int .i32 0, .bool false, .int .u32 0]) ?_ 2 _ rfl; (with_reducible repeat (first | refine blk_drewN ?_ _ | refine blk_drew ?_ | refine blk_alloc ?_ _)); refine blk_put (cs := #[.int .i64 t716, .string (⟨#[]⟩ : ByteArray), .int .i32 0, .bool false, .int .u32 0]) ?_ 1 _ rfl; (with_reducible repeat (first | refine blk_drewN ?_ _ | refine blk_drew ?_ | refine blk_alloc ?_ _)); refine blk_put (cs := #[.int .i64 0, .string (⟨#[]⟩ : ByteArray), .int .i32 0, .bool false, .int .u32 0]) ?_ 0 _ rfl; (with_reducible repeat (first | refine blk_drewN ?_ _ | refine blk_drew ?_ | refine blk_alloc ?_ _)); refine blk_far ?_ NB711_712.out _; (with_reducible repeat (first | refine blk_drewN ?_ _ | refine blk_drew ?_ | refine blk_alloc ?_ _)); refine blk_far ?_ NB711_712.out _; (with_reducible repeat (first | refine blk_drewN ?_ _ | refine blk_drew ?_ | refine blk_alloc ?_ _)); refine blk_far ?_ NB711_712.out _; (with_reducible repeat (first | refine blk_drewN ?_ _ | refine blk_drew ?_ | refine blk_alloc ?_ _)); refine blk_far ?_ NB711_712.out _; (with_reducible repeat (first | refine blk_drewN ?_ _ | refine blk_drew ?_ | refine blk_alloc ?_ _)); refine blk_far ?_ NB711_712.out _; (with_reducible repeat (first | refine blk_drewN ?_ _ | refine blk_drew ?_ | refine blk_alloc ?_ _)); exact BK711.out) Tryz.underlying46 rfl Z0) rfl ?_
  exact ⟨Z76, Z75⟩
 have c6b0 : decide (0 ≤ t714) = false := decide_eq_false c6; clear c6; have HC24 := Aside0.mk H; clear H; go_enter Tryz.func56, Tryz.ntmps56
 go_upto_region 5 with (first | ((with_reducible refine gate_dst (N := 4) rfl ?_); (try (refine gate_guard (by rfl) ?_; dsimp only)); refine box_event (by rfl) (N := 4) (by rfl) (cs := #[.int .i64 0, .string (⟨#[]⟩ : ByteArray), .int .i32 0, .bool false, .int .u32 0]) (t := 46) Z7 ?_; intro gb711 hg w25 hbox hb; have BK711 := Z (hbox); have GW711 := Z ((Z99 : w.heap.size ≤ gb711)); have GE711 := Z ((Z99 : w.heap.size ≤ gb711)); replace HB := Z (below_step Z75 hb); clear hb hbox hg) | ((with_reducible refine gate_dst (N := 6) rfl ?_); (try (refine gate_guard (by rfl) ?_; dsimp only)); refine box_event (by rfl) (N := 6) (by rfl) (cs := #[.int .i64 0, .string (⟨#[]⟩ : ByteArray), .int .i32 0, .bool false, .int .u32 0]) (t := 46) Z7 ?_; intro gb712 hg w26 hbox hb; have BK712 := Z (hbox); have GW712 := Z ((Z99 : w.heap.size ≤ gb712)); have GE712 := Z ((Z99 : w.heap.size ≤ gb712)); replace HB := Z (below_step Z75 hb); have NB711_712 := Z ((Z94 : gb711 ≠ gb712)); have NB712_711 := Z ((Z95 : gb712 ≠ gb711)); replace BK711 := Z (Yk9 BK711 hb); clear hb hbox hg; have hnb27 := NB712_711.out; have hnc27 := NB711_712.out; have hcz28 := Yb5 BK712.out; have p713 : 0 ≤ (a1 : Int) := of_decide_eq_true Z5; have q713 : a1 < (l0.length : Int) := of_decide_eq_true Z5; obtain ⟨ad713, e713, hx713_0⟩ := Kd.at_int HR0.out a1 p713 q713; cases e713; have hn713_0 : ad713.block ≠ gb712 := Nat.ne_of_lt (Nat.lt_of_lt_of_le Z58 GW712.out); have hn713_1 : ad713.block ≠ gb712 := Nat.ne_of_lt (Nat.lt_of_lt_of_le Z58 GW712.out); have hn713_2 : ad713.block ≠ gb712 := Nat.ne_of_lt (Nat.lt_of_lt_of_le Z58 GW712.out); have hn713_3 : ad713.block ≠ gb712 := Nat.ne_of_lt (Nat.lt_of_lt_of_le Z58 GW712.out); have hn713_4 : ad713.block ≠ gb712 := Nat.ne_of_lt (Nat.lt_of_lt_of_le Z58 GW712.out); replace hx713_0 := Yh HB.out hx713_0; replace hx713_0 := (cell_far (p := ⟨gb712, 0, none⟩) Z59 (.int .i64 0)).trans hx713_0; replace hx713_0 := (cell_far (p := ⟨gb712, 1, none⟩) Z60 (.string (⟨#[]⟩ : ByteArray))).trans hx713_0; replace hx713_0 := (cell_far (p := ⟨gb712, 2, none⟩) Z61 (.int .i32 0)).trans hx713_0; replace hx713_0 := (cell_far (p := ⟨gb712, 3, none⟩) Z62 (.bool false)).trans hx713_0; replace hx713_0 := (cell_far (p := ⟨gb712, 4, none⟩) Z63 (.int .u32 0)).trans hx713_0; clear hn713_0; clear hn713_1; clear hn713_2; clear hn713_3; clear hn713_4; replace p713 := eq_true p713; replace q713 := eq_true q713) | ((with_reducible refine gate_callee (f := 90) rfl ?_); refine goesL_ (some 17) rfl rfl Tryz.func90 Z0 rfl #[.int .u32 (Int.tmod (rd l0 a1) 16)] rfl Z10 ?_; (with_reducible refine (spec_l04Kind.calls k (Int.tmod (rd l0 a1) 16) t714 _ A5.out).mono ?_); rintro e w' ⟨rfl, ⟨nd, rfl⟩⟩; refine ⟨_, rfl, ?_⟩))
 (try simp only [Act.put, List.setIfInBounds_toArray, List.set_cons_zero, List.set_cons_succ])
 go_cut [27] (fun v27 wc => ∃ (kq : Nat) (x27_23 : Bool), v27 = .bool x27_23 ∧ Aside0 (spec_l04Item.j0 kq l0 a1 0 (Int.tmod (rd l0 a1) 16) x27_23 0 (⟨#[]⟩ : ByteArray) 0 false 0 = some (r1, r2, r3, r4, r5, r6)) ∧ Aside0 (kq ≤ k) ∧ Aside0 (wc.heap[gb711]? = some (.cells #[.int .i64 0, .string (⟨#[]⟩ : ByteArray), .int .i32 0, .bool false, .int .u32 0] 46 (0, 0))) ∧ Aside0 (wc.heap[gb712]? = some (.cells #[.int .i64 0, .string (⟨#[]⟩ : ByteArray), .int .i32 0, .bool false, .int .u32 0] 46 (0, 0))) ∧ Aside0 (Below w.heap.size w wc))
 case first =>
  have H := HC24.out; clear HC24; replace H := Yi H; rcases H with ⟨c29, H⟩ | ⟨c29, H⟩
  ·obtain ⟨c29b0, c29b1⟩ := Ye c29; clear c29
   (first | rw [c29b0] | (simp only [i64_w, i32_w]; rw [c29b0]) | skip)
   have H' := Aside0.mk H; clear H
   go_wp2
   go_meet
   case rel => exact ⟨_, (true), Z2, H', ⟨Z14⟩, ⟨(Z66 BK711)⟩, ⟨(Z31 BK712)⟩, ⟨Z75⟩⟩
  obtain ⟨c29b0, c29b1⟩ := Yn c29
  (first | rw [c29b0] | (simp only [i64_w, i32_w]; rw [c29b0]) | skip)
  replace H := Yi H; rcases H with ⟨c30, H⟩ | ⟨c30, H⟩
  ·obtain ⟨c30b0, c30b1⟩ := Ye c30; clear c30; have H' := Aside0.mk H; clear H
   go_wp2
   go_meet
   case rel => exact ⟨_, (true), Z2, H', ⟨Z14⟩, ⟨(Z66 BK711)⟩, ⟨(Z31 BK712)⟩, ⟨Z75⟩⟩
  obtain ⟨c30b0, c30b1⟩ := Yn c30; replace H := Yi H; rcases H with ⟨c31, H⟩ | ⟨c31, H⟩
  ·obtain ⟨c31b0, c31b1⟩ := Ye c31; clear c31; have H' := Aside0.mk H; clear H
   go_wp2
   go_meet
   case rel => exact ⟨_, (true), Z2, H', ⟨Z14⟩, ⟨(Z66 BK711)⟩, ⟨(Z31 BK712)⟩, ⟨Z75⟩⟩
  obtain ⟨c31b0, c31b1⟩ := Yn c31; have H' := Aside0.mk H; clear H
  go_wp2
  go_meet
  case rel => exact ⟨_, (((Int.tmod (rd l0 a1) 16) == 5)), Z2, H', ⟨Z14⟩, ⟨(Z66 BK711)⟩, ⟨(Z31 BK712)⟩, ⟨Z75⟩⟩
 case rest =>
  clear HC24; (try clear c1); (try clear c2); (try clear p2); (try clear c3); (try clear c3b0); (try clear c4); (try clear c4b0); (try clear c5); (try clear c6); (try clear c6b0); (try clear p7); (try clear q7); (try clear hx7); (try clear c9); (try clear c9b0); (try clear c9b1); (try clear c12); (try clear c19); (try clear c27); (try clear c29); (try clear c29b0); (try clear c29b1); (try clear c30); (try clear c30b0); (try clear c30b1); (try clear c31); (try clear c31b0); (try clear c31b1); (try clear hcz13); (try clear hcz15); (try clear hcz16); (try clear hcz20); (try clear hcz22); (try clear hcz23); (try clear hcz28); (try clear hx713_0); (try clear hx722_0); (try clear p713); (try clear p722); (try clear q713); (try clear q722); obtain ⟨kq, x27_23, rfl, HA, HJ23, BK711, BK712, HB⟩ := hcut
  cases kq with
  | zero => exact absurd HA.out (by simp [spec_l04Item.j0])
  | succ kj23 =>
   have H := HA.out; clear HA; simp only [spec_l04Item.j0] at H; by_cases c32 : x27_23 = true
   ·subst c32; replace H := Yt H; replace H := Yd H; obtain ⟨⟨t723, t724, t725, t726, t727, t728⟩, A33, H⟩ := H; (try dsimp only at H); replace H := Yi H; rcases H with ⟨c34, H⟩ | ⟨c34, H⟩
    ·obtain ⟨c34b0, c34b1⟩ := Ye c34; clear c34; replace H := Yg H; obtain ⟨c35, H⟩ := H; have c35b0 := decide_eq_true c35; clear c35; replace H := Yg H; obtain ⟨c36, H⟩ := H; have c36b0 := decide_eq_true c36; clear c36; simp only [Option.some.injEq, Prod.mk.injEq] at H; obtain ⟨rfl, rfl, rfl, rfl, rfl, rfl⟩ := H
     go_wp2_with (first | ((with_reducible refine gate_callee (f := 92) rfl ?_); refine goesL_ (some 45) rfl rfl Tryz.func92 Z0 rfl #[.slice (some ad713) l0.length c0, .int .i64 a1] rfl Z10 ?_; (with_reducible refine (spec_l04Number.calls kj23 _ _ l0 a1 t723 t724 t725 t726 t727 t728 _ ?side1 ?side2 A33.out).mono ?_); (case side1 => exact (Z29 HR0)); (case side2 => exact HC0.out); rintro e w37 ⟨rfl, hb⟩; refine ⟨_, rfl, ?_⟩; replace BK711 := Z (Yk9 BK711 hb); replace BK712 := Z (Yk9 BK712 hb); replace HB := Z (below_step Z75 hb); (try clear hb); (try clear hb2); (try clear hk); (try clear hi); have hnb38 := NB712_711.out; have hnc38 := NB711_712.out; have hcz39 := Yb5 BK712.out; have p729 : 0 ≤ (a1 : Int) := of_decide_eq_true Z5; have q729 : a1 < (l0.length : Int) := of_decide_eq_true Z5; obtain ⟨ad729, e729, hx729_0⟩ := Kd.at_int HR0.out a1 p729 q729; obtain rfl : ad713 = ad729 := (by injection e729); have hn729_0 : ad713.block ≠ gb712 := Nat.ne_of_lt (Nat.lt_of_lt_of_le Z67 GW712.out); have hn729_1 : ad713.block ≠ gb712 := Nat.ne_of_lt (Nat.lt_of_lt_of_le Z67 GW712.out); have hn729_2 : ad713.block ≠ gb712 := Nat.ne_of_lt (Nat.lt_of_lt_of_le Z67 GW712.out); have hn729_3 : ad713.block ≠ gb712 := Nat.ne_of_lt (Nat.lt_of_lt_of_le Z67 GW712.out); have hn729_4 : ad713.block ≠ gb712 := Nat.ne_of_lt (Nat.lt_of_lt_of_le Z67 GW712.out); replace hx729_0 := Yh HB.out hx729_0; replace hx729_0 := (cell_far (p := ⟨gb712, 0, none⟩) (by first | (rw [add_block]; exact hn729_0) | (show (Addr.add _ _).block ≠ _; rw [add_block]; exact hn729_0) | exact hn729_0) (.int .i64 t723)).trans hx729_0; replace hx729_0 := (cell_far (p := ⟨gb712, 1, none⟩) (by first | (rw [add_block]; exact hn729_1) | (show (Addr.add _ _).block ≠ _; rw [add_block]; exact hn729_1) | exact hn729_1) (.string t724)).trans hx729_0; replace hx729_0 := (cell_far (p := ⟨gb712, 2, none⟩) (by first | (rw [add_block]; exact hn729_2) | (show (Addr.add _ _).block ≠ _; rw [add_block]; exact hn729_2) | exact hn729_2) (.int .i32 t725)).trans hx729_0; replace hx729_0 := (cell_far (p := ⟨gb712, 3, none⟩) (by first | (rw [add_block]; exact hn729_3) | (show (Addr.add _ _).block ≠ _; rw [add_block]; exact hn729_3) | exact hn729_3) (.bool t726)).trans hx729_0; replace hx729_0 := (cell_far (p := ⟨gb712, 4, none⟩) (by first | (rw [add_block]; exact hn729_4) | (show (Addr.add _ _).block ≠ _; rw [add_block]; exact hn729_4) | exact hn729_4) (.int .u32 t727)).trans hx729_0; clear hn729_0; clear hn729_1; clear hn729_2; clear hn729_3; clear hn729_4; replace p729 := eq_true p729; replace q729 := eq_true q729; have hcz40 := Yb5 BK711.out))
     refine bodyPost_ret (results_ct rfl _ _ gb711 46 #[.int .i64 0, .string (⟨#[]⟩ : ByteArray), .int .i32 0, .bool false, .int .u32 (rd l0 a1)] (0, 0) _ rfl (Z65 BK711) Tryz.underlying46 rfl Z0) rfl ?_
     exact ⟨Z76, Z75⟩
    obtain ⟨c34b0, c34b1⟩ := Yn c34; simp only [Option.some.injEq, Prod.mk.injEq] at H; obtain ⟨rfl, rfl, rfl, rfl, rfl, rfl⟩ := H
    go_wp2_with (first | ((with_reducible refine gate_callee (f := 92) rfl ?_); refine goesL_ (some 45) rfl rfl Tryz.func92 Z0 rfl #[.slice (some ad713) l0.length c0, .int .i64 a1] rfl Z10 ?_; (with_reducible refine (spec_l04Number.calls kj23 _ _ l0 a1 t723 t724 t725 t726 t727 t728 _ ?side1 ?side2 A33.out).mono ?_); (case side1 => exact (Z29 HR0)); (case side2 => exact HC0.out); rintro e w41 ⟨rfl, hb⟩; refine ⟨_, rfl, ?_⟩; replace BK711 := Z (Yk9 BK711 hb); replace BK712 := Z (Yk9 BK712 hb); replace HB := Z (below_step Z75 hb); (try clear hb); (try clear hb2); (try clear hk); (try clear hi); have hnb42 := NB712_711.out; have hnc42 := NB711_712.out; have hcz43 := Yb5 BK712.out; have hcz44 := Yb5 BK711.out))
    refine bodyPost_ret (results_ct rfl _ _ gb711 46 #[.int .i64 t723, .string t724, .int .i32 t725, .bool t726, .int .u32 t727] (0, 0) _ rfl (by (with_reducible repeat (first | refine blk_drewN ?_ _ | refine blk_drew ?_ | refine blk_alloc ?_ _)); refine blk_put (cs := #[.int .i64 t723, .string t724, .int .i32 t725, .bool t726, .int .u32 0]) ?_ 4 _ rfl; (with_reducible repeat (first | refine blk_drewN ?_ _ | refine blk_drew ?_ | refine blk_alloc ?_ _)); refine blk_put (cs := #[.int .i64 t723, .string t724, .int .i32 t725, .bool false, .int .u32 0]) ?_ 3 _ rfl; (with_reducible repeat (first | refine blk_drewN ?_ _ | refine blk_drew ?_ | refine blk_alloc ?_ _)); refine blk_put (cs := #[.int .i64 t723, .string t724, .int .i32 0, .bool false, .int .u32 0]) ?_ 2 _ rfl; (with_reducible repeat (first | refine blk_drewN ?_ _ | refine blk_drew ?_ | refine blk_alloc ?_ _)); refine blk_put (cs := #[.int .i64 t723, .string (⟨#[]⟩ : ByteArray), .int .i32 0, .bool false, .int .u32 0]) ?_ 1 _ rfl; (with_reducible repeat (first | refine blk_drewN ?_ _ | refine blk_drew ?_ | refine blk_alloc ?_ _)); refine blk_put (cs := #[.int .i64 0, .string (⟨#[]⟩ : ByteArray), .int .i32 0, .bool false, .int .u32 0]) ?_ 0 _ rfl; (with_reducible repeat (first | refine blk_drewN ?_ _ | refine blk_drew ?_ | refine blk_alloc ?_ _)); refine blk_far ?_ NB711_712.out _; (with_reducible repeat (first | refine blk_drewN ?_ _ | refine blk_drew ?_ | refine blk_alloc ?_ _)); refine blk_far ?_ NB711_712.out _; (with_reducible repeat (first | refine blk_drewN ?_ _ | refine blk_drew ?_ | refine blk_alloc ?_ _)); refine blk_far ?_ NB711_712.out _; (with_reducible repeat (first | refine blk_drewN ?_ _ | refine blk_drew ?_ | refine blk_alloc ?_ _)); refine blk_far ?_ NB711_712.out _; (with_reducible repeat (first | refine blk_drewN ?_ _ | refine blk_drew ?_ | refine blk_alloc ?_ _)); refine blk_far ?_ NB711_712.out _; (with_reducible repeat (first | refine blk_drewN ?_ _ | refine blk_drew ?_ | refine blk_alloc ?_ _)); exact BK711.out) Tryz.underlying46 rfl Z0) rfl ?_
    exact ⟨Z76, Z75⟩
   replace c32 := Bool.eq_false_iff.mpr c32; subst c32; replace H := Yf H; have HC45 := Aside0.mk H; clear H
   go_upto_region 7 with (fail)
   go_cut [48] (fun v48 wc => ∃ (kq : Nat) (x48_44 : Bool), v48 = .bool x48_44 ∧ Aside0 (spec_l04Item.j1 kq l0 a1 0 x48_44 0 (⟨#[]⟩ : ByteArray) 0 false 0 = some (r1, r2, r3, r4, r5, r6)) ∧ Aside0 (kq ≤ kj23) ∧ Aside0 (wc.heap[gb711]? = some (.cells #[.int .i64 0, .string (⟨#[]⟩ : ByteArray), .int .i32 0, .bool false, .int .u32 0] 46 (0, 0))) ∧ Aside0 (wc.heap[gb712]? = some (.cells #[.int .i64 0, .string (⟨#[]⟩ : ByteArray), .int .i32 0, .bool false, .int .u32 0] 46 (0, 0))) ∧ Aside0 (Below w.heap.size w wc))
   case first =>
    have H := HC45.out; clear HC45; replace H := Yi H; rcases H with ⟨c46, H⟩ | ⟨c46, H⟩
    ·obtain ⟨c46b0, c46b1⟩ := Ye c46; clear c46
     (first | rw [c46b0] | (simp only [i64_w, i32_w]; rw [c46b0]) | skip)
     replace H := Yi H; rcases H with ⟨c47, H⟩ | ⟨c47, H⟩
     ·have c47b0 := decide_eq_true c47; clear c47; replace H := Yg H; obtain ⟨c48, H⟩ := H; have c48b0 := decide_eq_true c48; clear c48; replace H := Yg H; obtain ⟨c49, H⟩ := H; have c49b0 := decide_eq_true c49; clear c49; replace H := Yd H; obtain ⟨t731, A50, H⟩ := H; (try dsimp only at H); have H' := Aside0.mk H; clear H; have p730 : 0 ≤ (a1 : Int) := of_decide_eq_true Z5; have q730 : a1 < (l0.length : Int) := of_decide_eq_true Z5; obtain ⟨ad730, e730, hx730_0⟩ := Kd.at_int HR0.out a1 p730 q730; obtain rfl : ad713 = ad730 := (by injection e730); replace hx730_0 := Yh HB.out hx730_0; replace p730 := eq_true p730; replace q730 := eq_true q730
      go_wp2_with (first | (go_at_call 93; (with_reducible refine (spec_FieldOk.calls kj23 ((Int.tdiv (rd l0 a1) 16) % 4294967296) t731 _ A50.out).mono ?_); rintro e w51 ⟨rfl, hb⟩; replace BK711 := Z (Yk9 BK711 hb); replace BK712 := Z (Yk9 BK712 hb); replace HB := Z (below_step Z75 hb); (try clear hb); (try clear hb2); (try clear hk); (try clear hi)))
      go_meet
      case rel => exact ⟨_, (t731), Z2, H', ⟨Z68⟩, ⟨(Z8 BK711)⟩, ⟨(Z8 BK712)⟩, ⟨Z75⟩⟩
     have c47b0 := decide_eq_false c47; clear c47; have H' := Aside0.mk H; clear H
     go_wp2
     go_meet
     case rel => exact ⟨_, (false), Z2, H', ⟨Z68⟩, ⟨(Z8 BK711)⟩, ⟨(Z8 BK712)⟩, ⟨Z75⟩⟩
    obtain ⟨c46b0, c46b1⟩ := Yn c46
    (first | rw [c46b0] | (simp only [i64_w, i32_w]; rw [c46b0]) | skip)
    have H' := Aside0.mk H; clear H
    go_wp2
    go_meet
    case rel => exact ⟨_, (false), Z2, H', ⟨Z68⟩, ⟨(Z8 BK711)⟩, ⟨(Z8 BK712)⟩, ⟨Z75⟩⟩
   case rest =>
    clear HC45; (try clear c1); (try clear c2); (try clear p2); (try clear c3); (try clear c3b0); (try clear c4); (try clear c4b0); (try clear c5); (try clear c6); (try clear c6b0); (try clear p6); (try clear p7); (try clear q7); (try clear hx7); (try clear c9); (try clear c9b0); (try clear c9b1); (try clear c12); (try clear c19); (try clear c27); (try clear c29); (try clear c29b0); (try clear c29b1); (try clear c30); (try clear c30b0); (try clear c30b1); (try clear c31); (try clear c31b0); (try clear c31b1); (try clear c32); (try clear c34); (try clear c34b0); (try clear c34b1); (try clear c35); (try clear c35b0); (try clear c36); (try clear c36b0); (try clear c38); (try clear c42); (try clear c46); (try clear c46b0); (try clear c46b1); (try clear c47); (try clear c47b0); (try clear c48); (try clear c48b0); (try clear c49); (try clear c49b0); (try clear hcz13); (try clear hcz15); (try clear hcz16); (try clear hcz20); (try clear hcz22); (try clear hcz23); (try clear hcz28); (try clear hcz39); (try clear hcz40); (try clear hcz43); (try clear hcz44); (try clear hx713_0); (try clear hx722_0); (try clear hx729_0); (try clear hx730_0); (try clear p2); (try clear p7); (try clear p713); (try clear p722); (try clear p729); (try clear p730); (try clear q7); (try clear q713); (try clear q722); (try clear q729); (try clear q730); obtain ⟨kq, x48_44, rfl, HA, HJ44, BK711, BK712, HB⟩ := hcut
    cases kq with
    | zero => exact absurd HA.out (by simp [spec_l04Item.j1])
    | succ kj44 =>
     have H := HA.out; clear HA; simp only [spec_l04Item.j1] at H; by_cases c52 : x48_44 = true
     ·subst c52; replace H := Yt H; replace H := Yg H; obtain ⟨c53, H⟩ := H; have c53b0 := decide_eq_true c53; clear c53; replace H := Yg H; obtain ⟨c54, H⟩ := H; have c54b0 := decide_eq_true c54; clear c54; replace H := Yd H; obtain ⟨t733, A55, H⟩ := H; (try dsimp only at H); obtain ⟨ji56, hji56⟩ : ∃ j_ : Int, (wrap64 (a1 + 1)) = j_ := ⟨_, rfl⟩; replace H : (if 0 ≤ (ji56) then (if (ji56) < (l0.length : Int) then (if 2 = 0 then (some (0, (⟨#[]⟩ : ByteArray), 0, false, rd l0 a1, 1)) else (some (9, t733, wrap32 (rd l0 (ji56)), false, 0, 2))) else (none)) else (none)) = some (r1, r2, r3, r4, r5, r6) := by first | (rw [hji56] at H; exact H) | (simp only [hji56] at H ⊢; exact H)
      (try rw [hji56] at A55)
      have hji56w : (IntKind.i64.wrap (a1 + 1)) = ji56 := (i64_w _).trans hji56; replace H := Yg H; obtain ⟨c57, H⟩ := H; have c57b0 := decide_eq_true c57; clear c57; replace H := Yg H; obtain ⟨c58, H⟩ := H; have c58b0 := decide_eq_true c58; clear c58; replace H := Yi H; rcases H with ⟨c59, H⟩ | ⟨c59, H⟩
      ·exact absurd c59 (by decide)
      obtain ⟨c59b0, c59b1⟩ := Yn c59; simp only [Option.some.injEq, Prod.mk.injEq] at H; obtain ⟨rfl, rfl, rfl, rfl, rfl, rfl⟩ := H
      try go_wp2
      have n0_ := Z (blk_drew BK711.out); have n1_ := Z (blk_drew BK712.out); have n2_ := Z (below_drew1 HB.out); clear BK711; clear BK712; clear HB; have BK711 := n0_; have BK712 := n1_; have HB := n2_; clear n0_ n1_ n2_; have p732 : 0 ≤ (a1 : Int) := of_decide_eq_true Z5; have q732 : a1 < (l0.length : Int) := of_decide_eq_true Z5; obtain ⟨ad732, e732, hx732_0⟩ := Kd.at_int HR0.out a1 p732 q732; have hw732_0 := hx732_0; obtain rfl : ad713 = ad732 := (by injection e732); replace hx732_0 := Yh HB.out hx732_0; replace p732 := eq_true p732; replace q732 := eq_true q732; have p734 : 0 ≤ ((ji56) : Int) := of_decide_eq_true Z5; have q734 : (ji56) < (l0.length : Int) := of_decide_eq_true Z5; obtain ⟨ad734, e734, hx734_0⟩ := Kd.at_int HR0.out (ji56) p734 q734; have hw734_0 := hx734_0; obtain rfl : ad713 = ad734 := (by injection e734); replace hx734_0 := Yh HB.out hx734_0; replace p734 := eq_true p734; replace q734 := eq_true q734; refine start_ (n := 15) (S := fun w' => w'.cell? (ad713.add (a1).toNat) = some (.int .u32 (rd l0 a1)) ∧ w'.cell? (ad713.add ((ji56)).toNat) = some (.int .u32 (rd l0 (ji56)))) (ds := []) #[false, false, false, false, false, false, false, false, false, false, false, false, false, false, false] Z0 rfl rfl ⟨((HB.out.cell (World.block_lt_of_cell? w _ hw732_0)).trans hw732_0), ((HB.out.cell (World.block_lt_of_cell? w _ hw734_0)).trans hw734_0)⟩ (fun hHeld => ?_); refine with_tabW spec_l04Item.tab8 spec_l04Item.bits8 (fun HT_ HW_ => ?_)
      generalize wc.drew = w60 at BK711 BK712 HB hx732_0 hx734_0 hHeld ⊢; refine pure_ (i := 0) (N := some 66) (v := ?_) (a' := ?_) #[true, false, false, false, false, false, false, false, false, false, false, false, false, false, false] rfl rfl (any_of HT_.out Z0) (fun _ _ _ h => h) (Or.inl ⟨by rfl, ?_⟩) ?_ ?_
      rotate_left
      ·intro w'
       go_simp
       with_reducible rfl
      rotate_left
      ·simp only [Act.put, List.setIfInBounds_toArray, List.set_cons_zero, List.set_cons_succ, i64_w, i32_w]
       rfl
      refine pure_ (i := 1) (N := some 67) (v := ?_) (a' := ?_) #[true, true, false, false, false, false, false, false, false, false, false, false, false, false, false] rfl rfl (any_of HT_.out Z0) (fun _ _ _ h => h) (Or.inl ⟨by rfl, ?_⟩) ?_ ?_
      rotate_left
      ·intro w'
       go_simp
       with_reducible rfl
      rotate_left
      ·simp only [Act.put, List.setIfInBounds_toArray, List.set_cons_zero, List.set_cons_succ, i64_w, i32_w]
       rfl
      refine pure_ (i := 2) (N := some 68) (v := ?_) (a' := ?_) #[true, true, true, false, false, false, false, false, false, false, false, false, false, false, false] rfl rfl (any_of HT_.out Z0) (fun _ _ _ h => h) (Or.inl ⟨by rfl, ?_⟩) ?_ ?_
      rotate_left
      ·intro w'
       go_simp
       with_reducible rfl
      rotate_left
      ·simp only [Act.put, List.setIfInBounds_toArray, List.set_cons_zero, List.set_cons_succ, i64_w, i32_w]
       rfl
      refine pure_ (i := 6) (N := some 72) (v := ?_) (a' := ?_) #[true, true, true, false, false, false, true, false, false, false, false, false, false, false, false] rfl rfl (any_of HT_.out Z0) (fun _ _ _ h => h) (Or.inl ⟨by rfl, ?_⟩) ?_ ?_
      rotate_left
      ·intro w'
       go_simp
       with_reducible rfl
      rotate_left
      ·simp only [Act.put, List.setIfInBounds_toArray, List.set_cons_zero, List.set_cons_succ, i64_w, i32_w]
       rfl
      refine pure_ (i := 7) (N := some 73) (v := ?_) (a' := ?_) #[true, true, true, false, false, false, true, true, false, false, false, false, false, false, false] rfl rfl (any_of HT_.out Z0) (fun _ _ _ h => h) (Or.inl ⟨by rfl, ?_⟩) ?_ ?_
      rotate_left
      ·intro w'
       go_simp
       with_reducible rfl
      rotate_left
      ·simp only [Act.put, List.setIfInBounds_toArray, List.set_cons_zero, List.set_cons_succ, i64_w, i32_w]
       rfl
      refine pure_ (i := 8) (N := some 74) (v := ?_) (a' := ?_) #[true, true, true, false, false, false, true, true, true, false, false, false, false, false, false] rfl rfl (any_of HT_.out Z0) (fun _ _ _ h => h) (Or.inl ⟨by rfl, ?_⟩) ?_ ?_
      rotate_left
      ·intro w'
       go_simp
       with_reducible rfl
      rotate_left
      ·simp only [Act.put, List.setIfInBounds_toArray, List.set_cons_zero, List.set_cons_succ, i64_w, i32_w]
       rfl
      refine pure_ (i := 9) (N := some 75) (v := ?_) (a' := ?_) #[true, true, true, false, false, false, true, true, true, true, false, false, false, false, false] rfl rfl (any_of HT_.out Z0) (fun _ _ _ h => h) (Or.inl ⟨by rfl, ?_⟩) ?_ ?_
      rotate_left
      ·intro w'
       go_simp
       with_reducible rfl
      rotate_left
      ·simp only [Act.put, List.setIfInBounds_toArray, List.set_cons_zero, List.set_cons_succ, i64_w, i32_w]
       rfl
      refine take_ (i := 3) (N := some 69) (v := ?_) (a' := ?_) #[true, true, true, true, false, false, true, true, true, true, false, false, false, false, false] rfl rfl (take_ofW HT_.out HW_.out Z0) (fun _ _ _ h => h) (Or.inl ⟨by rfl, ?_⟩) hHeld ?_ ?_
      rotate_left
      ·rintro w' ⟨s0, s1⟩
       go_simp
       with_reducible rfl
      rotate_left
      ·simp only [Act.put, List.setIfInBounds_toArray, List.set_cons_zero, List.set_cons_succ, i64_w, i32_w]
       rfl
      refine pure_ (i := 4) (N := some 70) (v := ?_) (a' := ?_) #[true, true, true, true, true, false, true, true, true, true, false, false, false, false, false] rfl rfl (any_of HT_.out Z0) (fun _ _ _ h => h) (Or.inl ⟨by rfl, ?_⟩) ?_ ?_
      rotate_left
      ·intro w'
       go_simp
       with_reducible rfl
      rotate_left
      ·simp only [Act.put, List.setIfInBounds_toArray, List.set_cons_zero, List.set_cons_succ, i64_w, i32_w]
       rfl
      refine take_ (i := 10) (N := some 76) (v := ?_) (a' := ?_) #[true, true, true, true, true, false, true, true, true, true, true, false, false, false, false] rfl rfl (take_ofW HT_.out HW_.out Z0) (fun _ _ _ h => h) (Or.inl ⟨by rfl, ?_⟩) hHeld ?_ ?_
      rotate_left
      ·rintro w' ⟨s0, s1⟩
       go_simp
       with_reducible rfl
      rotate_left
      ·simp only [Act.put, List.setIfInBounds_toArray, List.set_cons_zero, List.set_cons_succ, i64_w, i32_w]
       rfl
      refine pure_ (i := 11) (N := some 77) (v := ?_) (a' := ?_) #[true, true, true, true, true, false, true, true, true, true, true, true, false, false, false] rfl rfl (any_of HT_.out Z0) (fun _ _ _ h => h) (Or.inl ⟨by rfl, ?_⟩) ?_ ?_
      rotate_left
      ·intro w'
       go_simp
       with_reducible rfl
      rotate_left
      ·simp only [Act.put, List.setIfInBounds_toArray, List.set_cons_zero, List.set_cons_succ, i64_w, i32_w]
       rfl
      refine one_ (i := 5) (N := some 71) #[true, true, true, true, true, true, true, true, true, true, true, true, false, false, false] rfl rfl (one_of HT_.out Z0) (by decide) (fun K hK => ?_)
      refine goes_ Tryz.func94 Z0 rfl #[.int .u32 ((Int.tdiv (rd l0 a1) 16) % 4294967296)] (by rfl) rfl rfl Z10 ?_
      with_reducible refine (spec_UnpackOne.calls kj44 ((Int.tdiv (rd l0 a1) 16) % 4294967296) t733 _ A55.out).mono ?_
      rintro e w61 ⟨rfl, hb⟩; refine ⟨_, rfl, ?_⟩
      have n0_ := Z (Yk9 BK711 hb); have n1_ := Z (Yk9 BK712 hb); have n2_ := Z (below_step Z75 hb); clear BK711; clear BK712; clear HB; have BK711 := n0_; have BK712 := n1_; have HB := n2_; clear n0_ n1_ n2_
      (try clear hb)
      (try clear hb2)
      (try clear hk)
      (try clear hi)
      refine hK.out _ _ ⟨((HB.out.cell (World.block_lt_of_cell? w _ hw732_0)).trans hw732_0), ((HB.out.cell (World.block_lt_of_cell? w _ hw734_0)).trans hw734_0)⟩ (fun hHeld => ?_)
      clear hK K; refine norm_ (a' := ?_) ?_ ?_
      rotate_left
      ·show Act.put _ (some 71) _ = _
       simp only [Act.put, List.setIfInBounds_toArray, List.set_cons_zero, List.set_cons_succ, i64_w, i32_w]
       rfl
      refine pure_ (i := 12) (N := some 78) (v := ?_) (a' := ?_) #[true, true, true, true, true, true, true, true, true, true, true, true, true, false, false] rfl rfl (any_of HT_.out Z0) (fun _ _ _ h => h) (Or.inl ⟨by rfl, ?_⟩) ?_ ?_
      rotate_left
      ·intro w'
       go_simp
       with_reducible rfl
      rotate_left
      ·simp only [Act.put, List.setIfInBounds_toArray, List.set_cons_zero, List.set_cons_succ, i64_w, i32_w]
       rfl
      refine one_ (i := 13) (N := none) #[true, true, true, true, true, true, true, true, true, true, true, true, true, true, false] rfl rfl (one_of HT_.out Z0) (by decide) (fun K hK => ?_)
      have hs62 : w61.cell? ⟨gb712, 0, none⟩ = some (.int .i64 0) := (blk_cell BK712.out 0).trans rfl; have hfs62 := blk_frozen BK712.out 0; have hns62_0 := NB711_712.out; have hms62_0 := NB712_711.out; have hs63 : w61.cell? ⟨gb712, 1, none⟩ = some (.string (⟨#[]⟩ : ByteArray)) := (blk_cell BK712.out 1).trans rfl; have hfs63 := blk_frozen BK712.out 1; have hns63_0 := NB711_712.out; have hms63_0 := NB712_711.out; have hs64 : w61.cell? ⟨gb712, 2, none⟩ = some (.int .i32 0) := (blk_cell BK712.out 2).trans rfl; have hfs64 := blk_frozen BK712.out 2; have hns64_0 := NB711_712.out; have hms64_0 := NB712_711.out; have hs65 : w61.cell? ⟨gb712, 3, none⟩ = some (.bool false) := (blk_cell BK712.out 3).trans rfl; have hfs65 := blk_frozen BK712.out 3; have hns65_0 := NB711_712.out; have hms65_0 := NB712_711.out; have hs66 : w61.cell? ⟨gb712, 4, none⟩ = some (.int .u32 0) := (blk_cell BK712.out 4).trans rfl; have hfs66 := blk_frozen BK712.out 4; have hns66_0 := NB711_712.out; have hms66_0 := NB712_711.out; refine skip_ (w1 := ?_) (by rfl) rfl ?_ ?_
      rotate_left
      ·go_simp
       rfl
      refine hK.out _ _ ⟨((cell_far (p := ⟨gb712, _, none⟩) Z96 _).trans (((cell_far (p := ⟨gb712, _, none⟩) Z96 _).trans (((cell_far (p := ⟨gb712, _, none⟩) Z96 _).trans (((cell_far (p := ⟨gb712, _, none⟩) Z96 _).trans (((cell_far (p := ⟨gb712, _, none⟩) Z96 _).trans (hHeld.1)))))))))), ((cell_far (p := ⟨gb712, _, none⟩) Z97 _).trans (((cell_far (p := ⟨gb712, _, none⟩) Z97 _).trans (((cell_far (p := ⟨gb712, _, none⟩) Z97 _).trans (((cell_far (p := ⟨gb712, _, none⟩) Z97 _).trans (((cell_far (p := ⟨gb712, _, none⟩) Z97 _).trans (hHeld.2))))))))))⟩ (fun hHeld => ?_)
      clear hK K; refine pure_ (i := 14) (N := some 7) (v := ?_) (a' := ?_) #[true, true, true, true, true, true, true, true, true, true, true, true, true, true, true] rfl rfl (any_of HT_.out Z0) (fun _ _ _ h => h) (Or.inl ⟨by rfl, ?_⟩) ?_ ?_
      rotate_left
      ·intro w'
       go_simp
       with_reducible rfl
      rotate_left
      ·simp only [Act.put, List.setIfInBounds_toArray, List.set_cons_zero, List.set_cons_succ, i64_w, i32_w]
       rfl
      refine done_ (done_of HT_.out Z0) ?_
      have hnb67 := NB712_711.out; have hnc67 := NB711_712.out; have hcz68 := Yb5 BK712.out; have hcz69 := Yb5 BK711.out
      try go_wp2
      refine bodyPost_ret (results_ct rfl _ _ gb711 46 #[.int .i64 9, .string t733, .int .i32 (wrap32 (rd l0 (ji56))), .bool false, .int .u32 0] (0, 0) _ rfl (by (with_reducible repeat (first | refine blk_drewN ?_ _ | refine blk_drew ?_ | refine blk_alloc ?_ _)); refine blk_put (cs := #[.int .i64 9, .string t733, .int .i32 (wrap32 (rd l0 (ji56))), .bool false, .int .u32 0]) ?_ 4 _ rfl; (with_reducible repeat (first | refine blk_drewN ?_ _ | refine blk_drew ?_ | refine blk_alloc ?_ _)); refine blk_put (cs := #[.int .i64 9, .string t733, .int .i32 (wrap32 (rd l0 (ji56))), .bool false, .int .u32 0]) ?_ 3 _ rfl; (with_reducible repeat (first | refine blk_drewN ?_ _ | refine blk_drew ?_ | refine blk_alloc ?_ _)); refine blk_put (cs := #[.int .i64 9, .string t733, .int .i32 0, .bool false, .int .u32 0]) ?_ 2 _ rfl; (with_reducible repeat (first | refine blk_drewN ?_ _ | refine blk_drew ?_ | refine blk_alloc ?_ _)); refine blk_put (cs := #[.int .i64 9, .string (⟨#[]⟩ : ByteArray), .int .i32 0, .bool false, .int .u32 0]) ?_ 1 _ rfl; (with_reducible repeat (first | refine blk_drewN ?_ _ | refine blk_drew ?_ | refine blk_alloc ?_ _)); refine blk_put (cs := #[.int .i64 0, .string (⟨#[]⟩ : ByteArray), .int .i32 0, .bool false, .int .u32 0]) ?_ 0 _ rfl; (with_reducible repeat (first | refine blk_drewN ?_ _ | refine blk_drew ?_ | refine blk_alloc ?_ _)); refine blk_far ?_ NB711_712.out _; (with_reducible repeat (first | refine blk_drewN ?_ _ | refine blk_drew ?_ | refine blk_alloc ?_ _)); refine blk_far ?_ NB711_712.out _; (with_reducible repeat (first | refine blk_drewN ?_ _ | refine blk_drew ?_ | refine blk_alloc ?_ _)); refine blk_far ?_ NB711_712.out _; (with_reducible repeat (first | refine blk_drewN ?_ _ | refine blk_drew ?_ | refine blk_alloc ?_ _)); refine blk_far ?_ NB711_712.out _; (with_reducible repeat (first | refine blk_drewN ?_ _ | refine blk_drew ?_ | refine blk_alloc ?_ _)); refine blk_far ?_ NB711_712.out _; (with_reducible repeat (first | refine blk_drewN ?_ _ | refine blk_drew ?_ | refine blk_alloc ?_ _)); exact BK711.out) Tryz.underlying46 rfl Z0) rfl ?_
      exact ⟨by first | rfl | (rw [← show ∀ l_ : List UInt8, (!l_.isEmpty) = (l_ != []) from fun l_ => Z9]; rfl) | (simp [errW_none, errW_some] <;> rfl) | (simp only [← hji56]; first | rfl | (simp [errW_none, errW_some] <;> rfl)) | (simp [*, errW_none, errW_some] <;> rfl), Z75⟩
     replace c52 := Bool.eq_false_iff.mpr c52; subst c52; replace H := Yf H; replace H := Yi H; rcases H with ⟨c70, H⟩ | ⟨c70, H⟩
     ·obtain ⟨c70b0, c70b1⟩ := Ye (show (0 : Int) = 0 from rfl); clear c70; replace H := Yg H; obtain ⟨c71, H⟩ := H; have c71b0 := decide_eq_true c71; clear c71; replace H := Yg H; obtain ⟨c72, H⟩ := H; have c72b0 := decide_eq_true c72; clear c72; simp only [Option.some.injEq, Prod.mk.injEq] at H; obtain ⟨rfl, rfl, rfl, rfl, rfl, rfl⟩ := H; have p736 : 0 ≤ (a1 : Int) := of_decide_eq_true Z5; have q736 : a1 < (l0.length : Int) := of_decide_eq_true Z5; obtain ⟨ad736, e736, hx736_0⟩ := Kd.at_int HR0.out a1 p736 q736; obtain rfl : ad713 = ad736 := (by injection e736); replace hx736_0 := Yh HB.out hx736_0; replace p736 := eq_true p736; replace q736 := eq_true q736; have hnb73 := NB711_712.out; have hnc73 := NB712_711.out; have hcz74 := Yb5 BK711.out
      go_wp2
      refine bodyPost_ret (results_ct rfl _ _ gb711 46 #[.int .i64 0, .string (⟨#[]⟩ : ByteArray), .int .i32 0, .bool false, .int .u32 (rd l0 a1)] (0, 0) _ rfl (Z31 BK711) Tryz.underlying46 rfl Z0) rfl ?_
      exact ⟨Z76, Z75⟩
     exact absurd (by first | exact trivial | rfl) c70

end Go.Proofs.YtfjmpdcflnaogaaGreatDoor.QFnNotes
