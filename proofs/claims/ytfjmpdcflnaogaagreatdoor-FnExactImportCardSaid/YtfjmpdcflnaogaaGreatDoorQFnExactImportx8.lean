/-
Plain functions for the Go functions that a law reaches, each with a proof that the translation's call comes to just that; no conditions beyond those written in each.
-/
import Derived.Test.YtfjmpdcflnaogaaGreatDoorSFnExactImport
import Derived.Test.YtfjmpdcflnaogaaGreatDoorQFnExactImportx5
import Derived.Test.YtfjmpdcflnaogaaGreatDoorQFnExactImportx6
import Derived.Test.YtfjmpdcflnaogaaGreatDoorQFnExactImportx7
namespace Go.Proofs.YtfjmpdcflnaogaaGreatDoor.QFnExactImport
open Go.RowKit Go.Proofs.YtfjmpdcflnaogaaGreatDoorW.PrintWords Go.Proofs.YtfjmpdcflnaogaaGreatDoorW.PrintLast Go.Proofs.YtfjmpdcflnaogaaGreatDoorW.PrintMore
attribute [local go_sem] max2_int min2_int max_two min_two max_three min_three max_four min_four   -- for this text's walks alone
set_option linter.unusedVariables false
set_option maxHeartbeats 8000000
set_option maxRecDepth 100000
set_option linter.unusedSimpArgs false

theorem Yk8 {X W w1 : World} {g : Nat} {o : Obj} (h : Aside0 (X.heap[g]? = some o)) (hb : Below W.heap.size W w1) (e : X.heap[g]? = some o → W.heap[g]? = some o := by intro h_; repeat (first | (with_reducible exact h_) | (with_reducible first | refine blk_drewN ?_ _ | refine blk_drew ?_ | refine blk_alloc ?_ _) | refine blk_far ?_ (Aside0.out (by assumption)) _ | exact h_)) : w1.heap[g]? = some o := blk_below (e h.out) hb
mutual
def spec_ReadItem.l0 : Nat → ByteArray → Int → Option (Int × ByteArray × Int × Bool × Int × Bool)
 | 0, _, _ => none
 | k + 1, x0, x4 => if x4 ≤ 9 then (if (x0.size : Int) < 2 then (spec_ReadItem.j1 k x0 x4 true) else (if 0 ≤ 1 then (if 1 ≤ (x0.size : Int) then ((spec_l06Mark.f k x4).bind fun t520 => (spec_ReadItem.j1 k x0 x4 ((x0.extract 0 1).toList != t520.toList))) else (none)) else (none))) else (some (0, (⟨#[]⟩ : ByteArray), 0, false, 0, false))
def spec_ReadItem.j1 : Nat → ByteArray → Int → Bool → Option (Int × ByteArray × Int × Bool × Int × Bool)
 | 0, _, _, _ => none
 | k + 1, x0, x4, x21 => if x21 = true then (spec_ReadItem.l0 k x0 (wrap64 (x4 + 1))) else (if 1 < (x0.size : Int) then (if (bt x0 1) = 35 then (spec_ReadItem.j2 k x0 x4 true) else (spec_ReadItem.j2 k x0 x4 ((bt x0 1) == 36))) else (none))
def spec_ReadItem.j2 : Nat → ByteArray → Int → Bool → Option (Int × ByteArray × Int × Bool × Int × Bool)
 | 0, _, _, _ => none
 | k + 1, x0, x4, x5 => if x4 = 7 then (spec_ReadItem.j3 k x0 x4 (x5 != true)) else (spec_ReadItem.j3 k x0 x4 (x5 != (x4 == 8)))
def spec_ReadItem.j3 : Nat → ByteArray → Int → Bool → Option (Int × ByteArray × Int × Bool × Int × Bool)
 | 0, _, _, _ => none
 | k + 1, x0, x4, x37 => if x37 = true then (spec_ReadItem.l0 k x0 (wrap64 (x4 + 1))) else (if 1 ≤ (x0.size : Int) then ((spec_l06Tail.f k x4 (x0.extract 1 x0.size)).bind fun bt521 => (if bt521.2.2.2.2.2 = true then ((spec_ItemText.f k bt521.1 bt521.2.1 bt521.2.2.1 bt521.2.2.2.1 bt521.2.2.2.2.1).bind fun t528 => (if t528.toList = x0.toList then (some (bt521.1, bt521.2.1, bt521.2.2.1, bt521.2.2.2.1, bt521.2.2.2.2.1, true)) else (spec_ReadItem.l0 k x0 (wrap64 (x4 + 1))))) else (spec_ReadItem.l0 k x0 (wrap64 (x4 + 1))))) else (none))
end
def spec_ReadItem.f (k : Nat) (a0 : ByteArray) : Option (Int × ByteArray × Int × Bool × Int × Bool) := spec_ReadItem.l0 k a0 0
theorem spec_ReadItem.calls (k : Nat) (a0 : ByteArray) (r1 : Int) (r2 : ByteArray) (r3 : Int) (r4 : Bool) (r5 : Int) (r6 : Bool) (w : World) (h : spec_ReadItem.f k a0 = some (r1, r2, r3, r4, r5, r6)) :
  Calls Tryz.prog 33 #[.string a0] w fun e w' => e = .returned (.tuple #[.agg #[.int .i64 r1, .string r2, .int .i32 r3, .bool r4, .int .u32 r5], .bool r6]) ∧ Below w.heap.size w w' := by
 have hu46 := Tryz.underlying46; have HB := Z (Below.refl w.heap.size w); unfold spec_ReadItem.f at h; have H := h; clear h; have H' := Aside0.mk H; clear H; go_enter Tryz.func33, Tryz.ntmps33
 go_wp2_with (first | ((with_reducible refine gate_dst (N := 2) rfl ?_); refine box_event (by rfl) (N := 2) (by rfl) (cs := #[.int .i64 0, .string (⟨#[]⟩ : ByteArray), .int .i32 0, .bool false, .int .u32 0]) (t := 46) Z4 ?_; intro gb519 hg w2 hbox hb; have BK519 := Z (hbox); have GW519 := Z ((Z124 : w.heap.size ≤ gb519)); have GE519 := Z ((Z124 : w.heap.size ≤ gb519)); replace HB := Z (below_step Z90 hb); clear hb hbox hg))
 repeat (go_quiet (first | ((with_reducible refine gate_dst (N := 2) rfl ?_); refine box_event (by rfl) (N := 2) (by rfl) (cs := #[.int .i64 0, .string (⟨#[]⟩ : ByteArray), .int .i32 0, .bool false, .int .u32 0]) (t := 46) Z4 ?_; intro gb519 hg w2 hbox hb; have BK519 := Z (hbox); have GW519 := Z ((Z124 : w.heap.size ≤ gb519)); have GE519 := Z ((Z124 : w.heap.size ≤ gb519)); replace HB := Z (below_step Z90 hb); clear hb hbox hg)); try go_wp2_with (first | ((with_reducible refine gate_dst (N := 2) rfl ?_); refine box_event (by rfl) (N := 2) (by rfl) (cs := #[.int .i64 0, .string (⟨#[]⟩ : ByteArray), .int .i32 0, .bool false, .int .u32 0]) (t := 46) Z4 ?_; intro gb519 hg w2 hbox hb; have BK519 := Z (hbox); have GW519 := Z ((Z124 : w.heap.size ≤ gb519)); have GE519 := Z ((Z124 : w.heap.size ≤ gb519)); replace HB := Z (below_step Z90 hb); clear hb hbox hg)))
 go_loopg [4] k (fun kq v4 w' => ∃ (x4_1 : Int) (x520000_1 : Int) (x520001_1 : ByteArray) (x520002_1 : Int) (x520003_1 : Bool) (x520004_1 : Int), v4 = .int .i64 x4_1 ∧ Aside0 (spec_ReadItem.l0 kq a0 x4_1 = some (r1, r2, r3, r4, r5, r6)) ∧ Aside0 (kq ≤ k) ∧ Aside0 (w'.heap[gb519]? = some (.cells #[.int .i64 x520000_1, .string x520001_1, .int .i32 x520002_1, .bool x520003_1, .int .u32 x520004_1] 46 (0, 0))) ∧ Aside0 (Below w.heap.size w w'))
 case atStart => exact ⟨(0), (0), ((⟨#[]⟩ : ByteArray)), (0), (false), (0), Z2, H', ⟨Nat.le_refl _⟩, ⟨(Z15 BK519)⟩, ⟨Z90⟩⟩
 case round =>
  clear H'; (try clear p2); obtain ⟨x4_1, x520000_1, x520001_1, x520002_1, x520003_1, x520004_1, rfl, HA, HK1, BK519, HB⟩ := hrel
  cases gk with
  | zero => exact absurd HA.out (by simp [spec_ReadItem.l0])
  | succ k1 =>
   have H := HA.out; clear HA; simp only [spec_ReadItem.l0] at H; replace H := Yi H; rcases H with ⟨c3, H⟩ | ⟨c3, H⟩
   ·have c3b0 := decide_eq_true c3; clear c3; have HC4 := Aside0.mk H; clear H
    go_upto_region 4 with (fail)
    repeat (go_quiet (fail); go_upto_region 4 with (fail))
    go_cut [21] (fun v21 wc => ∃ (kq : Nat) (x21_3 : Bool), v21 = .bool x21_3 ∧ Aside0 (spec_ReadItem.j1 kq a0 x4_1 x21_3 = some (r1, r2, r3, r4, r5, r6)) ∧ Aside0 (kq ≤ k1) ∧ Aside0 (wc.heap[gb519]? = some (.cells #[.int .i64 x520000_1, .string x520001_1, .int .i32 x520002_1, .bool x520003_1, .int .u32 x520004_1] 46 (0, 0))) ∧ Aside0 (Below w.heap.size w wc))
    case first =>
     have H := HC4.out; clear HC4; replace H := Yi H; rcases H with ⟨c5, H⟩ | ⟨c5, H⟩
     ·have c5b0 := decide_eq_true c5; have c5b1 : decide (a0.size < 2) = true := decide_eq_true (by omega); clear c5
      (first | rw [c5b0] | (simp only [i64_w, i32_w]; rw [c5b0]) | skip)
      have H' := Aside0.mk H; clear H
      go_wp2
      repeat (go_quiet (fail); try go_wp2)
      go_meet
      case rel => exact ⟨_, (true), Z2, H', ⟨Z48⟩, ⟨(Z15 BK519)⟩, ⟨Z90⟩⟩
     have c5b0 := decide_eq_false c5; have c5b1 : decide (a0.size < 2) = false := decide_eq_false (by omega); clear c5
     (first | rw [c5b0] | (simp only [i64_w, i32_w]; rw [c5b0]) | skip)
     replace H := Yg H; obtain ⟨c6, H⟩ := H; have c6b0 := eq_true c6; have c6b1 := decide_eq_true c6; clear c6; replace H := Yg H; obtain ⟨c7, H⟩ := H; have c7b0 := eq_true c7; have c7b1 := decide_eq_true c7; clear c7; replace H := Yd H; obtain ⟨t520, A8, H⟩ := H; (try dsimp only at H); have H' := Aside0.mk H; clear H
     go_wp2_with (first | (go_at_call 58; (with_reducible refine (spec_l06Mark.calls k1 x4_1 t520 _ A8.out).mono ?_); rintro e w' ⟨rfl, ⟨nd, rfl⟩⟩; (try first | exact ⟨rfl, _, World.drewN_drewN _ _ _⟩ | exact ⟨rfl, _, Eq.trans (World.drewN_drewN _ _ _) (congrArg (World.drewN _) (Nat.add_assoc _ _ _))⟩)))
     repeat (go_quiet (first | (go_at_call 58; (with_reducible refine (spec_l06Mark.calls k1 x4_1 t520 _ A8.out).mono ?_); rintro e w' ⟨rfl, ⟨nd, rfl⟩⟩; (try first | exact ⟨rfl, _, World.drewN_drewN _ _ _⟩ | exact ⟨rfl, _, Eq.trans (World.drewN_drewN _ _ _) (congrArg (World.drewN _) (Nat.add_assoc _ _ _))⟩))); try go_wp2_with (first | (go_at_call 58; (with_reducible refine (spec_l06Mark.calls k1 x4_1 t520 _ A8.out).mono ?_); rintro e w' ⟨rfl, ⟨nd, rfl⟩⟩; (try first | exact ⟨rfl, _, World.drewN_drewN _ _ _⟩ | exact ⟨rfl, _, Eq.trans (World.drewN_drewN _ _ _) (congrArg (World.drewN _) (Nat.add_assoc _ _ _))⟩))))
     go_meet
     case rel => exact ⟨_, (((a0.extract 0 1).toList != t520.toList)), Z2, H', ⟨Z48⟩, ⟨(Z15 BK519)⟩, ⟨Z90⟩⟩
    case rest =>
     clear HC4; (try clear p2); (try clear c3); (try clear c3b0); (try clear c5); (try clear c5b0); (try clear c5b1); (try clear c6); (try clear c6b0); (try clear c6b1); (try clear c7); (try clear c7b0); (try clear c7b1); (try clear p2); obtain ⟨kq, x21_3, rfl, HA, HJ3, BK519, HB⟩ := hcut
     cases kq with
     | zero => exact absurd HA.out (by simp [spec_ReadItem.j1])
     | succ kj3 =>
      have H := HA.out; clear HA; simp only [spec_ReadItem.j1] at H; by_cases c9 : x21_3 = true
      ·subst c9; replace H := Yt H; have H' := Aside0.mk H; clear H
       go_wp2
       repeat (go_quiet (fail); try go_wp2)
       go_roundg kj3
       case measure => have := HK1.out; have := HJ3.out; omega
       case rel => exact ⟨(wrap64 (x4_1 + 1)), (x520000_1), (x520001_1), (x520002_1), (x520003_1), (x520004_1), Z2, H', ⟨by have := HK1.out; have := HJ3.out; omega⟩, ⟨(Z15 BK519)⟩, ⟨Z90⟩⟩
      replace c9 := Bool.eq_false_iff.mpr c9; subst c9; replace H := Yf H; have HC10 := Aside0.mk H; clear H
      go_upto_region 5 with (fail)
      repeat (go_quiet (fail); go_upto_region 5 with (fail))
      go_cut [5] (fun v5 wc => ∃ (kq : Nat) (x5_9 : Bool), v5 = .bool x5_9 ∧ Aside0 (spec_ReadItem.j2 kq a0 x4_1 x5_9 = some (r1, r2, r3, r4, r5, r6)) ∧ Aside0 (kq ≤ kj3) ∧ Aside0 (wc.heap[gb519]? = some (.cells #[.int .i64 x520000_1, .string x520001_1, .int .i32 x520002_1, .bool x520003_1, .int .u32 x520004_1] 46 (0, 0))) ∧ Aside0 (Below w.heap.size w wc))
      case first =>
       have H := HC10.out; clear HC10; replace H := Yg H; obtain ⟨c11, H⟩ := H; have c11b0 := decide_eq_true c11; have c11b1 : decide (1 < a0.size) = true := decide_eq_true (by omega); clear c11
       (first | rw [c11b0] | (simp only [i64_w, i32_w]; rw [c11b0]) | skip)
       replace H := Yi H; rcases H with ⟨c13, H⟩ | ⟨c13, H⟩
       ·obtain ⟨c13b0, c13b1⟩ := Ye c13; clear c13; have H' := Aside0.mk H; clear H; have p12 : 0 ≤ (1 : Int) := (by omega); have q12 : 1 < a0.size := Z109; have hx12 : ∀ h : 1 < a0.size, ((a0[1]'h).toNat : Int) = bt a0 1 := bt_at a0 1; clear p12; have qi12 : (1 < (a0.size : Int)) = True := eq_true (of_decide_eq_true Z7); replace q12 := eq_true q12
        go_wp2
        repeat (go_quiet (fail); try go_wp2)
        go_meet
        case rel => exact ⟨_, (true), Z2, H', ⟨Z55⟩, ⟨(Z15 BK519)⟩, ⟨Z90⟩⟩
       obtain ⟨c13b0, c13b1⟩ := Yn c13; have H' := Aside0.mk H; clear H; have p12 : 0 ≤ (1 : Int) := (by omega); have q12 : 1 < a0.size := Z109; have hx12 : ∀ h : 1 < a0.size, ((a0[1]'h).toNat : Int) = bt a0 1 := bt_at a0 1; clear p12; have qi12 : (1 < (a0.size : Int)) = True := eq_true (of_decide_eq_true Z7); replace q12 := eq_true q12; have p14 : 0 ≤ (1 : Int) := (by omega); have q14 : 1 < a0.size := Z109; have hx14 : ∀ h : 1 < a0.size, ((a0[1]'h).toNat : Int) = bt a0 1 := bt_at a0 1; clear p14; have qi14 : (1 < (a0.size : Int)) = True := eq_true (of_decide_eq_true Z7); replace q14 := eq_true q14
       go_wp2
       repeat (go_quiet (fail); try go_wp2)
       go_meet
       case rel => exact ⟨_, (((bt a0 1) == 36)), Z2, H', ⟨Z55⟩, ⟨(Z15 BK519)⟩, ⟨Z90⟩⟩
      case rest =>
       clear HC10; (try clear c1); (try clear p1); (try clear q1); (try clear hx1); (try clear qi1); (try clear p2); (try clear c3); (try clear c3b0); (try clear c5); (try clear c5b0); (try clear c5b1); (try clear c6); (try clear c6b0); (try clear c6b1); (try clear p6); (try clear c7); (try clear c7b0); (try clear c7b1); (try clear c9); (try clear c11); (try clear c11b0); (try clear c11b1); (try clear p12); (try clear q12); (try clear hx12); (try clear qi12); (try clear c13); (try clear c13b0); (try clear c13b1); (try clear p14); (try clear q14); (try clear hx14); (try clear qi14); (try clear p12); (try clear p14); (try clear p2); (try clear q12); (try clear q14); obtain ⟨kq, x5_9, rfl, HA, HJ9, BK519, HB⟩ := hcut
       cases kq with
       | zero => exact absurd HA.out (by simp [spec_ReadItem.j2])
       | succ kj9 =>
        have H := HA.out; clear HA; simp only [spec_ReadItem.j2] at H; have HC15 := Aside0.mk H; clear H
        go_upto_region 6 with (fail)
        repeat (go_quiet (fail); go_upto_region 6 with (fail))
        go_cut [37] (fun v37 wc => ∃ (kq : Nat) (x37_14 : Bool), v37 = .bool x37_14 ∧ Aside0 (spec_ReadItem.j3 kq a0 x4_1 x37_14 = some (r1, r2, r3, r4, r5, r6)) ∧ Aside0 (kq ≤ kj9) ∧ Aside0 (wc.heap[gb519]? = some (.cells #[.int .i64 x520000_1, .string x520001_1, .int .i32 x520002_1, .bool x520003_1, .int .u32 x520004_1] 46 (0, 0))) ∧ Aside0 (Below w.heap.size w wc))
        case first =>
         have H := HC15.out; clear HC15; replace H := Yi H; rcases H with ⟨c16, H⟩ | ⟨c16, H⟩
         ·obtain ⟨c16b0, c16b1⟩ := Ye c16; clear c16
          (first | rw [c16b0] | (simp only [i64_w, i32_w]; rw [c16b0]) | skip)
          have H' := Aside0.mk H; clear H
          go_wp2
          repeat (go_quiet (fail); try go_wp2)
          go_meet
          case rel => exact ⟨_, ((x5_9 != true)), Z2, H', ⟨Z56⟩, ⟨(Z15 BK519)⟩, ⟨Z90⟩⟩
         obtain ⟨c16b0, c16b1⟩ := Yn c16
         (first | rw [c16b0] | (simp only [i64_w, i32_w]; rw [c16b0]) | skip)
         have H' := Aside0.mk H; clear H
         go_wp2
         repeat (go_quiet (fail); try go_wp2)
         go_meet
         case rel => exact ⟨_, ((x5_9 != (x4_1 == 8))), Z2, H', ⟨Z56⟩, ⟨(Z15 BK519)⟩, ⟨Z90⟩⟩
        case rest =>
         clear HC15; (try clear c1); (try clear p1); (try clear q1); (try clear hx1); (try clear qi1); (try clear p2); (try clear c3); (try clear c3b0); (try clear c5); (try clear c5b0); (try clear c5b1); (try clear c6); (try clear c6b0); (try clear c6b1); (try clear p6); (try clear c7); (try clear c7b0); (try clear c7b1); (try clear c9); (try clear c11); (try clear c11b0); (try clear c11b1); (try clear p12); (try clear q12); (try clear hx12); (try clear qi12); (try clear c13); (try clear c13b0); (try clear c13b1); (try clear p14); (try clear q14); (try clear hx14); (try clear qi14); (try clear c16); (try clear c16b0); (try clear c16b1); (try clear p1); (try clear p12); (try clear p14); (try clear p2); (try clear p6); (try clear q1); (try clear q12); (try clear q14); obtain ⟨kq, x37_14, rfl, HA, HJ14, BK519, HB⟩ := hcut
         cases kq with
         | zero => exact absurd HA.out (by simp [spec_ReadItem.j3])
         | succ kj14 =>
          have H := HA.out; clear HA; simp only [spec_ReadItem.j3] at H; by_cases c17 : x37_14 = true
          ·subst c17; replace H := Yt H; have H' := Aside0.mk H; clear H
           go_wp2
           repeat (go_quiet (fail); try go_wp2)
           go_roundg kj14
           case measure => have := HK1.out; have := HJ3.out; have := HJ9.out; have := HJ14.out; omega
           case rel => exact ⟨(wrap64 (x4_1 + 1)), (x520000_1), (x520001_1), (x520002_1), (x520003_1), (x520004_1), Z2, H', ⟨Z57⟩, ⟨(Z15 BK519)⟩, ⟨Z90⟩⟩
          replace c17 := Bool.eq_false_iff.mpr c17; subst c17; replace H := Yf H; replace H := Yg H; obtain ⟨c18, H⟩ := H; have c18b0 := eq_true c18; have c18b1 := decide_eq_true c18; clear c18; replace H := Yd H; obtain ⟨⟨t521, t522, t523, t524, t525, t526⟩, A19, H⟩ := H; (try dsimp only at H); by_cases c20 : t526 = true
          ·subst c20; replace H := Yt H; replace H := Yd H; obtain ⟨t528, A21, H⟩ := H; (try dsimp only at H); replace H := Yi H; rcases H with ⟨c22, H⟩ | ⟨c22, H⟩
           ·obtain ⟨c22b0, c22b1⟩ := Ye c22; clear c22; simp only [Option.some.injEq, Prod.mk.injEq] at H; obtain ⟨rfl, rfl, rfl, rfl, rfl, rfl⟩ := H
            go_wp2_with (first | (go_at_call 62; (with_reducible refine (spec_l06Tail.calls kj14 x4_1 (a0.extract 1 a0.size) t521 t522 t523 t524 t525 true _ A19.out).mono ?_); rintro e w23 ⟨rfl, hb⟩; replace BK519 := Z (Yk8 BK519 hb); replace HB := Z (below_step Z90 hb); (try clear hb); (try clear hb2); (try clear hk); (try clear hi)) | ((with_reducible refine gate_dst (N := 6) rfl ?_); refine box_event (by rfl) (N := 6) (by rfl) (cs := #[.int .i64 0, .string (⟨#[]⟩ : ByteArray), .int .i32 0, .bool false, .int .u32 0]) (t := 46) Z4 ?_; intro gb527 hg w24 hbox hb; have BK527 := Z (hbox); have GW527 := Z ((Z124 : w.heap.size ≤ gb527)); have GE527 := Z ((Z124 : w.heap.size ≤ gb527)); replace HB := Z (below_step Z90 hb); have NB519_527 := Z ((Z110 : gb519 ≠ gb527)); have NB527_519 := Z ((Z111 : gb527 ≠ gb519)); replace BK519 := Z (Yk8 BK519 hb); clear hb hbox hg; have hnb25 := NB527_519.out; have hnc25 := NB519_527.out; have hcz26 := Yb5 BK527.out) | (go_at_call 31; (with_reducible refine (spec_ItemText.calls kj14 t521 t522 t523 t524 t525 t528 _ A21.out).mono ?_); rintro e w27 ⟨rfl, hb⟩; replace BK519 := Z (Yk8 BK519 hb); replace BK527 := Z (blk_below (g := gb527) (o := .cells #[.int .i64 t521, .string t522, .int .i32 t523, .bool t524, .int .u32 t525] 46 (0, 0)) (Z58 BK527) hb); replace HB := Z (below_step Z90 hb); (try clear hb); (try clear hb2); (try clear hk); (try clear hi); have hcz28 := Yb5 BK527.out; have hcz29 := Yb5 BK519.out))
            repeat (go_quiet (first | (go_at_call 62; (with_reducible refine (spec_l06Tail.calls kj14 x4_1 (a0.extract 1 a0.size) t521 t522 t523 t524 t525 true _ A19.out).mono ?_); rintro e w23 ⟨rfl, hb⟩; replace BK519 := Z (Yk8 BK519 hb); replace HB := Z (below_step Z90 hb); (try clear hb); (try clear hb2); (try clear hk); (try clear hi)) | ((with_reducible refine gate_dst (N := 6) rfl ?_); refine box_event (by rfl) (N := 6) (by rfl) (cs := #[.int .i64 0, .string (⟨#[]⟩ : ByteArray), .int .i32 0, .bool false, .int .u32 0]) (t := 46) Z4 ?_; intro gb527 hg w24 hbox hb; have BK527 := Z (hbox); have GW527 := Z ((Z124 : w.heap.size ≤ gb527)); have GE527 := Z ((Z124 : w.heap.size ≤ gb527)); replace HB := Z (below_step Z90 hb); have NB519_527 := Z ((Z110 : gb519 ≠ gb527)); have NB527_519 := Z ((Z111 : gb527 ≠ gb519)); replace BK519 := Z (Yk8 BK519 hb); clear hb hbox hg; have hnb25 := NB527_519.out; have hnc25 := NB519_527.out; have hcz26 := Yb5 BK527.out) | (go_at_call 31; (with_reducible refine (spec_ItemText.calls kj14 t521 t522 t523 t524 t525 t528 _ A21.out).mono ?_); rintro e w27 ⟨rfl, hb⟩; replace BK519 := Z (Yk8 BK519 hb); replace BK527 := Z (blk_below (g := gb527) (o := .cells #[.int .i64 t521, .string t522, .int .i32 t523, .bool t524, .int .u32 t525] 46 (0, 0)) (Z58 BK527) hb); replace HB := Z (below_step Z90 hb); (try clear hb); (try clear hb2); (try clear hk); (try clear hi); have hcz28 := Yb5 BK527.out; have hcz29 := Yb5 BK519.out)); try go_wp2_with (first | (go_at_call 62; (with_reducible refine (spec_l06Tail.calls kj14 x4_1 (a0.extract 1 a0.size) t521 t522 t523 t524 t525 true _ A19.out).mono ?_); rintro e w23 ⟨rfl, hb⟩; replace BK519 := Z (Yk8 BK519 hb); replace HB := Z (below_step Z90 hb); (try clear hb); (try clear hb2); (try clear hk); (try clear hi)) | ((with_reducible refine gate_dst (N := 6) rfl ?_); refine box_event (by rfl) (N := 6) (by rfl) (cs := #[.int .i64 0, .string (⟨#[]⟩ : ByteArray), .int .i32 0, .bool false, .int .u32 0]) (t := 46) Z4 ?_; intro gb527 hg w24 hbox hb; have BK527 := Z (hbox); have GW527 := Z ((Z124 : w.heap.size ≤ gb527)); have GE527 := Z ((Z124 : w.heap.size ≤ gb527)); replace HB := Z (below_step Z90 hb); have NB519_527 := Z ((Z110 : gb519 ≠ gb527)); have NB527_519 := Z ((Z111 : gb527 ≠ gb519)); replace BK519 := Z (Yk8 BK519 hb); clear hb hbox hg; have hnb25 := NB527_519.out; have hnc25 := NB519_527.out; have hcz26 := Yb5 BK527.out) | (go_at_call 31; (with_reducible refine (spec_ItemText.calls kj14 t521 t522 t523 t524 t525 t528 _ A21.out).mono ?_); rintro e w27 ⟨rfl, hb⟩; replace BK519 := Z (Yk8 BK519 hb); replace BK527 := Z (blk_below (g := gb527) (o := .cells #[.int .i64 t521, .string t522, .int .i32 t523, .bool t524, .int .u32 t525] 46 (0, 0)) (Z58 BK527) hb); replace HB := Z (below_step Z90 hb); (try clear hb); (try clear hb2); (try clear hk); (try clear hi); have hcz28 := Yb5 BK527.out; have hcz29 := Yb5 BK519.out)))
            refine bodyPost_ret (results_ct rfl _ _ gb519 46 #[.int .i64 t521, .string t522, .int .i32 t523, .bool t524, .int .u32 t525] (0, 0) _ rfl (by (with_reducible repeat (first | refine blk_drewN ?_ _ | refine blk_drew ?_ | refine blk_alloc ?_ _)); refine blk_put (cs := #[.int .i64 t521, .string t522, .int .i32 t523, .bool t524, .int .u32 x520004_1]) ?_ 4 _ rfl; (with_reducible repeat (first | refine blk_drewN ?_ _ | refine blk_drew ?_ | refine blk_alloc ?_ _)); refine blk_put (cs := #[.int .i64 t521, .string t522, .int .i32 t523, .bool x520003_1, .int .u32 x520004_1]) ?_ 3 _ rfl; (with_reducible repeat (first | refine blk_drewN ?_ _ | refine blk_drew ?_ | refine blk_alloc ?_ _)); refine blk_put (cs := #[.int .i64 t521, .string t522, .int .i32 x520002_1, .bool x520003_1, .int .u32 x520004_1]) ?_ 2 _ rfl; (with_reducible repeat (first | refine blk_drewN ?_ _ | refine blk_drew ?_ | refine blk_alloc ?_ _)); refine blk_put (cs := #[.int .i64 t521, .string x520001_1, .int .i32 x520002_1, .bool x520003_1, .int .u32 x520004_1]) ?_ 1 _ rfl; (with_reducible repeat (first | refine blk_drewN ?_ _ | refine blk_drew ?_ | refine blk_alloc ?_ _)); refine blk_put (cs := #[.int .i64 x520000_1, .string x520001_1, .int .i32 x520002_1, .bool x520003_1, .int .u32 x520004_1]) ?_ 0 _ rfl; (with_reducible repeat (first | refine blk_drewN ?_ _ | refine blk_drew ?_ | refine blk_alloc ?_ _)); exact BK519.out) Tryz.underlying46 rfl Z0) rfl ?_
            exact ⟨Z91, Z90⟩
           obtain ⟨c22b0, c22b1⟩ := Yn c22; have H' := Aside0.mk H; clear H
           go_wp2_with (first | (go_at_call 62; (with_reducible refine (spec_l06Tail.calls kj14 x4_1 (a0.extract 1 a0.size) t521 t522 t523 t524 t525 true _ A19.out).mono ?_); rintro e w30 ⟨rfl, hb⟩; replace BK519 := Z (Yk8 BK519 hb); replace HB := Z (below_step Z90 hb); (try clear hb); (try clear hb2); (try clear hk); (try clear hi)) | ((with_reducible refine gate_dst (N := 6) rfl ?_); refine box_event (by rfl) (N := 6) (by rfl) (cs := #[.int .i64 0, .string (⟨#[]⟩ : ByteArray), .int .i32 0, .bool false, .int .u32 0]) (t := 46) Z4 ?_; intro gb527 hg w31 hbox hb; have BK527 := Z (hbox); have GW527 := Z ((Z124 : w.heap.size ≤ gb527)); have GE527 := Z ((Z124 : w.heap.size ≤ gb527)); replace HB := Z (below_step Z90 hb); have NB519_527 := Z ((Z110 : gb519 ≠ gb527)); have NB527_519 := Z ((Z111 : gb527 ≠ gb519)); replace BK519 := Z (Yk8 BK519 hb); clear hb hbox hg; have hnb32 := NB527_519.out; have hnc32 := NB519_527.out; have hcz33 := Yb5 BK527.out) | (go_at_call 31; (with_reducible refine (spec_ItemText.calls kj14 t521 t522 t523 t524 t525 t528 _ A21.out).mono ?_); rintro e w34 ⟨rfl, hb⟩; replace BK519 := Z (Yk8 BK519 hb); replace BK527 := Z (blk_below (g := gb527) (o := .cells #[.int .i64 t521, .string t522, .int .i32 t523, .bool t524, .int .u32 t525] 46 (0, 0)) (Z58 BK527) hb); replace HB := Z (below_step Z90 hb); (try clear hb); (try clear hb2); (try clear hk); (try clear hi)))
           repeat (go_quiet (first | (go_at_call 62; (with_reducible refine (spec_l06Tail.calls kj14 x4_1 (a0.extract 1 a0.size) t521 t522 t523 t524 t525 true _ A19.out).mono ?_); rintro e w30 ⟨rfl, hb⟩; replace BK519 := Z (Yk8 BK519 hb); replace HB := Z (below_step Z90 hb); (try clear hb); (try clear hb2); (try clear hk); (try clear hi)) | ((with_reducible refine gate_dst (N := 6) rfl ?_); refine box_event (by rfl) (N := 6) (by rfl) (cs := #[.int .i64 0, .string (⟨#[]⟩ : ByteArray), .int .i32 0, .bool false, .int .u32 0]) (t := 46) Z4 ?_; intro gb527 hg w31 hbox hb; have BK527 := Z (hbox); have GW527 := Z ((Z124 : w.heap.size ≤ gb527)); have GE527 := Z ((Z124 : w.heap.size ≤ gb527)); replace HB := Z (below_step Z90 hb); have NB519_527 := Z ((Z110 : gb519 ≠ gb527)); have NB527_519 := Z ((Z111 : gb527 ≠ gb519)); replace BK519 := Z (Yk8 BK519 hb); clear hb hbox hg; have hnb32 := NB527_519.out; have hnc32 := NB519_527.out; have hcz33 := Yb5 BK527.out) | (go_at_call 31; (with_reducible refine (spec_ItemText.calls kj14 t521 t522 t523 t524 t525 t528 _ A21.out).mono ?_); rintro e w34 ⟨rfl, hb⟩; replace BK519 := Z (Yk8 BK519 hb); replace BK527 := Z (blk_below (g := gb527) (o := .cells #[.int .i64 t521, .string t522, .int .i32 t523, .bool t524, .int .u32 t525] 46 (0, 0)) (Z58 BK527) hb); replace HB := Z (below_step Z90 hb); (try clear hb); (try clear hb2); (try clear hk); (try clear hi))); try go_wp2_with (first | (go_at_call 62; (with_reducible refine (spec_l06Tail.calls kj14 x4_1 (a0.extract 1 a0.size) t521 t522 t523 t524 t525 true _ A19.out).mono ?_); rintro e w30 ⟨rfl, hb⟩; replace BK519 := Z (Yk8 BK519 hb); replace HB := Z (below_step Z90 hb); (try clear hb); (try clear hb2); (try clear hk); (try clear hi)) | ((with_reducible refine gate_dst (N := 6) rfl ?_); refine box_event (by rfl) (N := 6) (by rfl) (cs := #[.int .i64 0, .string (⟨#[]⟩ : ByteArray), .int .i32 0, .bool false, .int .u32 0]) (t := 46) Z4 ?_; intro gb527 hg w31 hbox hb; have BK527 := Z (hbox); have GW527 := Z ((Z124 : w.heap.size ≤ gb527)); have GE527 := Z ((Z124 : w.heap.size ≤ gb527)); replace HB := Z (below_step Z90 hb); have NB519_527 := Z ((Z110 : gb519 ≠ gb527)); have NB527_519 := Z ((Z111 : gb527 ≠ gb519)); replace BK519 := Z (Yk8 BK519 hb); clear hb hbox hg; have hnb32 := NB527_519.out; have hnc32 := NB519_527.out; have hcz33 := Yb5 BK527.out) | (go_at_call 31; (with_reducible refine (spec_ItemText.calls kj14 t521 t522 t523 t524 t525 t528 _ A21.out).mono ?_); rintro e w34 ⟨rfl, hb⟩; replace BK519 := Z (Yk8 BK519 hb); replace BK527 := Z (blk_below (g := gb527) (o := .cells #[.int .i64 t521, .string t522, .int .i32 t523, .bool t524, .int .u32 t525] 46 (0, 0)) (Z58 BK527) hb); replace HB := Z (below_step Z90 hb); (try clear hb); (try clear hb2); (try clear hk); (try clear hi))))
           go_roundg kj14
           case measure => have := HK1.out; have := HJ3.out; have := HJ9.out; have := HJ14.out; omega
           case rel => exact ⟨(wrap64 (x4_1 + 1)), (x520000_1), (x520001_1), (x520002_1), (x520003_1), (x520004_1), Z2, H', ⟨Z57⟩, ⟨(Z15 BK519)⟩, ⟨Z90⟩⟩
          replace c20 := Bool.eq_false_iff.mpr c20; subst c20; replace H := Yf H; have H' := Aside0.mk H; clear H
          go_wp2_with (first | (go_at_call 62; (with_reducible refine (spec_l06Tail.calls kj14 x4_1 (a0.extract 1 a0.size) t521 t522 t523 t524 t525 false _ A19.out).mono ?_); rintro e w35 ⟨rfl, hb⟩; replace BK519 := Z (Yk8 BK519 hb); replace HB := Z (below_step Z90 hb); (try clear hb); (try clear hb2); (try clear hk); (try clear hi)) | ((with_reducible refine gate_dst (N := 6) rfl ?_); refine box_event (by rfl) (N := 6) (by rfl) (cs := #[.int .i64 0, .string (⟨#[]⟩ : ByteArray), .int .i32 0, .bool false, .int .u32 0]) (t := 46) Z4 ?_; intro gb527 hg w36 hbox hb; have BK527 := Z (hbox); have GW527 := Z ((Z124 : w.heap.size ≤ gb527)); have GE527 := Z ((Z124 : w.heap.size ≤ gb527)); replace HB := Z (below_step Z90 hb); have NB519_527 := Z ((Z110 : gb519 ≠ gb527)); have NB527_519 := Z ((Z111 : gb527 ≠ gb519)); replace BK519 := Z (Yk8 BK519 hb); clear hb hbox hg; have hnb37 := NB527_519.out; have hnc37 := NB519_527.out; have hcz38 := Yb5 BK527.out))
          repeat (go_quiet (first | (go_at_call 62; (with_reducible refine (spec_l06Tail.calls kj14 x4_1 (a0.extract 1 a0.size) t521 t522 t523 t524 t525 false _ A19.out).mono ?_); rintro e w35 ⟨rfl, hb⟩; replace BK519 := Z (Yk8 BK519 hb); replace HB := Z (below_step Z90 hb); (try clear hb); (try clear hb2); (try clear hk); (try clear hi)) | ((with_reducible refine gate_dst (N := 6) rfl ?_); refine box_event (by rfl) (N := 6) (by rfl) (cs := #[.int .i64 0, .string (⟨#[]⟩ : ByteArray), .int .i32 0, .bool false, .int .u32 0]) (t := 46) Z4 ?_; intro gb527 hg w36 hbox hb; have BK527 := Z (hbox); have GW527 := Z ((Z124 : w.heap.size ≤ gb527)); have GE527 := Z ((Z124 : w.heap.size ≤ gb527)); replace HB := Z (below_step Z90 hb); have NB519_527 := Z ((Z110 : gb519 ≠ gb527)); have NB527_519 := Z ((Z111 : gb527 ≠ gb519)); replace BK519 := Z (Yk8 BK519 hb); clear hb hbox hg; have hnb37 := NB527_519.out; have hnc37 := NB519_527.out; have hcz38 := Yb5 BK527.out)); try go_wp2_with (first | (go_at_call 62; (with_reducible refine (spec_l06Tail.calls kj14 x4_1 (a0.extract 1 a0.size) t521 t522 t523 t524 t525 false _ A19.out).mono ?_); rintro e w35 ⟨rfl, hb⟩; replace BK519 := Z (Yk8 BK519 hb); replace HB := Z (below_step Z90 hb); (try clear hb); (try clear hb2); (try clear hk); (try clear hi)) | ((with_reducible refine gate_dst (N := 6) rfl ?_); refine box_event (by rfl) (N := 6) (by rfl) (cs := #[.int .i64 0, .string (⟨#[]⟩ : ByteArray), .int .i32 0, .bool false, .int .u32 0]) (t := 46) Z4 ?_; intro gb527 hg w36 hbox hb; have BK527 := Z (hbox); have GW527 := Z ((Z124 : w.heap.size ≤ gb527)); have GE527 := Z ((Z124 : w.heap.size ≤ gb527)); replace HB := Z (below_step Z90 hb); have NB519_527 := Z ((Z110 : gb519 ≠ gb527)); have NB527_519 := Z ((Z111 : gb527 ≠ gb519)); replace BK519 := Z (Yk8 BK519 hb); clear hb hbox hg; have hnb37 := NB527_519.out; have hnc37 := NB519_527.out; have hcz38 := Yb5 BK527.out)))
          go_roundg kj14
          case measure => have := HK1.out; have := HJ3.out; have := HJ9.out; have := HJ14.out; omega
          case rel => exact ⟨(wrap64 (x4_1 + 1)), (x520000_1), (x520001_1), (x520002_1), (x520003_1), (x520004_1), Z2, H', ⟨Z57⟩, ⟨by (with_reducible repeat (first | refine blk_drewN ?_ _ | refine blk_drew ?_ | refine blk_alloc ?_ _)); refine blk_far ?_ NB519_527.out _; (with_reducible repeat (first | refine blk_drewN ?_ _ | refine blk_drew ?_ | refine blk_alloc ?_ _)); refine blk_far ?_ NB519_527.out _; (with_reducible repeat (first | refine blk_drewN ?_ _ | refine blk_drew ?_ | refine blk_alloc ?_ _)); refine blk_far ?_ NB519_527.out _; (with_reducible repeat (first | refine blk_drewN ?_ _ | refine blk_drew ?_ | refine blk_alloc ?_ _)); refine blk_far ?_ NB519_527.out _; (with_reducible repeat (first | refine blk_drewN ?_ _ | refine blk_drew ?_ | refine blk_alloc ?_ _)); refine blk_far ?_ NB519_527.out _; (with_reducible repeat (first | refine blk_drewN ?_ _ | refine blk_drew ?_ | refine blk_alloc ?_ _)); exact BK519.out⟩, ⟨Z90⟩⟩
   have c3b0 := decide_eq_false c3; clear c3; simp only [Option.some.injEq, Prod.mk.injEq] at H; obtain ⟨rfl, rfl, rfl, rfl, rfl, rfl⟩ := H; have hcz39 := Yb5 BK519.out
   go_wp2
   repeat (go_quiet (fail); try go_wp2)
   refine bodyPost_ret (results_ct rfl _ _ gb519 46 #[.int .i64 0, .string (⟨#[]⟩ : ByteArray), .int .i32 0, .bool false, .int .u32 0] (0, 0) _ rfl (by (with_reducible repeat (first | refine blk_drewN ?_ _ | refine blk_drew ?_ | refine blk_alloc ?_ _)); refine blk_put (cs := #[.int .i64 0, .string (⟨#[]⟩ : ByteArray), .int .i32 0, .bool false, .int .u32 x520004_1]) ?_ 4 _ rfl; (with_reducible repeat (first | refine blk_drewN ?_ _ | refine blk_drew ?_ | refine blk_alloc ?_ _)); refine blk_put (cs := #[.int .i64 0, .string (⟨#[]⟩ : ByteArray), .int .i32 0, .bool x520003_1, .int .u32 x520004_1]) ?_ 3 _ rfl; (with_reducible repeat (first | refine blk_drewN ?_ _ | refine blk_drew ?_ | refine blk_alloc ?_ _)); refine blk_put (cs := #[.int .i64 0, .string (⟨#[]⟩ : ByteArray), .int .i32 x520002_1, .bool x520003_1, .int .u32 x520004_1]) ?_ 2 _ rfl; (with_reducible repeat (first | refine blk_drewN ?_ _ | refine blk_drew ?_ | refine blk_alloc ?_ _)); refine blk_put (cs := #[.int .i64 0, .string x520001_1, .int .i32 x520002_1, .bool x520003_1, .int .u32 x520004_1]) ?_ 1 _ rfl; (with_reducible repeat (first | refine blk_drewN ?_ _ | refine blk_drew ?_ | refine blk_alloc ?_ _)); refine blk_put (cs := #[.int .i64 x520000_1, .string x520001_1, .int .i32 x520002_1, .bool x520003_1, .int .u32 x520004_1]) ?_ 0 _ rfl; (with_reducible repeat (first | refine blk_drewN ?_ _ | refine blk_drew ?_ | refine blk_alloc ?_ _)); exact BK519.out) Tryz.underlying46 rfl Z0) rfl ?_
   exact ⟨Z91, Z90⟩

def spec_Unparse.l0 : Nat → List (S46) → List Int → Int → Option (List Int × Bool)
 | 0, _, _, _ => none
 | k + 1, x0, x4, x5 => if x5 < (x0.length : Int) then (if 0 ≤ x5 then ((spec_CellsOf.f k ((rd_T46 x0 x5).f0) ((rd_T46 x0 x5).f1) ((rd_T46 x0 x5).f2) ((rd_T46 x0 x5).f3) ((rd_T46 x0 x5).f4)).bind fun t533 => (if (t533.length : Int) = 0 then (some ((([] : List Int)), false)) else (if (wrap64 ((x4.length : Int) + (t533.length : Int))) > 64 then (some ((([] : List Int)), false)) else (if x4.length + t533.length < 35184372088832 then (spec_Unparse.l0 k x0 (x4 ++ t533) (wrap64 (x5 + 1))) else (none))))) else (none)) else (some (x4, true))
def spec_Unparse.f (k : Nat) (l0 : List (S46)) : Option (List Int × Bool) := spec_Unparse.l0 k l0 (([] : List Int)) 0
theorem spec_Unparse.calls (k : Nat) (A0 : Option Addr) (c0 : Nat) (l0 : List (S46)) (r1 : List Int) (r2 : Bool) (w : World) (hr0 : Kd.C k46 w A0 l0.length l0) (hc0 : l0.length ≤ c0) (h : spec_Unparse.f k l0 = some (r1, r2)) :
  Calls Tryz.prog 34 #[.slice A0 l0.length c0] w fun e w' => ∃ v0_ : Value, e = .returned (.tuple #[v0_, .bool r2]) ∧ Kd.R (Kd.int .u32) 44 w' w.heap.size (fun _ => True) v0_ r1 ∧ Below w.heap.size w w' := by
 have hu46 := Tryz.underlying46; have HR0 := Aside0.mk hr0; have HC0 := Aside0.mk hc0; clear hr0 hc0; have HB := Z (Below.refl w.heap.size w); unfold spec_Unparse.f at h; have H := h; clear h; obtain ⟨y529, hy529⟩ : ∃ y_ : List Int, y_ = (([] : List Int)) := ⟨_, rfl⟩; replace H : (spec_Unparse.l0 k l0 y529 0) = some (r1, r2) := Yy hy529 H; have Ny529 := Aside0.mk hy529; clear hy529; have H' := Aside0.mk H; clear H; go_enter Tryz.func34, Tryz.ntmps34
 go_wp2_with (first | ((with_reducible refine gate_dst (N := 7) rfl ?_); (try (refine gate_guard (by rfl) ?_; dsimp only)); refine Kd.R_lit (Kd.int .u32) _ 44 (by rfl) (N := 7) (by rfl) (xs := ([] : List Int)) (inner := []) (ok := fun _ => True) (okp := fun _ => True) Z4 (Reps.none _ _) (fun _ hk => hk) trivial (Below.refl _ _) (Nat.le_refl _) (by simp) ?_; intro v530 w2 ho3 hb hg_ hnew_; clear hg_ hnew_; (first | rw [← Ny529.out] at ho3 | (simp only [Int.reduceToNat] at ho3; rw [← Ny529.out] at ho3)); have HO531 := Z (Kd.R_lower ho3 (below_size Z90)); replace HB := Z (below_step Z90 hb); clear hb ho3))
 go_loopg [4, 5] k (fun kq v4 v5 w' => ∃ (x4_1 : List Int) (x5_1 : Int), v5 = .int .i64 x5_1 ∧ Aside0 (spec_Unparse.l0 kq l0 x4_1 x5_1 = some (r1, r2)) ∧ Aside0 (kq ≤ k) ∧ Aside0 (Kd.R (Kd.int .u32) 44 w' w.heap.size (fun _ => True) v4 x4_1) ∧ Aside0 (Below w.heap.size w w'))
 case atStart => exact ⟨(y529), (0), Z2, H', ⟨Nat.le_refl _⟩, ⟨(Z6 HO531)⟩, ⟨Z90⟩⟩
 case round =>
  clear H'; (try clear p2); (try clear c3); obtain ⟨x4_1, x5_1, rfl, HA, HK1, HO_4, HB⟩ := hrel
  cases gk with
  | zero => exact absurd HA.out (by simp [spec_Unparse.l0])
  | succ k1 =>
   have H := HA.out; clear HA; simp only [spec_Unparse.l0] at H; replace H := Yi H; rcases H with ⟨c4, H⟩ | ⟨c4, H⟩
   ·have c4b0 := decide_eq_true c4; clear c4; replace H := Yg H; obtain ⟨c5, H⟩ := H; have c5b0 := decide_eq_true c5; clear c5; replace H := Yd H; obtain ⟨t533, A6, H⟩ := H; (try dsimp only at H); replace H := Yi H; rcases H with ⟨c7, H⟩ | ⟨c7, H⟩
    ·obtain ⟨c7b0, c7b1⟩ := Ye c7; clear c7; obtain ⟨y536, hy536⟩ : ∃ y_ : List Int, y_ = (([] : List Int)) := ⟨_, rfl⟩; replace H : (some (y536, false)) = some (r1, r2) := Yy hy536 H; have Ny536 := Aside0.mk hy536; clear hy536; simp only [Option.some.injEq, Prod.mk.injEq] at H; obtain ⟨rfl, rfl⟩ := H; have p532 : 0 ≤ (x5_1 : Int) := of_decide_eq_true Z7; have q532 : x5_1 < (l0.length : Int) := of_decide_eq_true Z7; obtain ⟨ad532, e532, hx532_0, hx532_1, hx532_2, hx532_3, hx532_4⟩ := at_T46 HR0.out x5_1 p532 q532
     cases e532
     replace hx532_0 := Yh HB.out hx532_0; replace hx532_1 := Yh HB.out hx532_1; replace hx532_2 := Yh HB.out hx532_2; replace hx532_3 := Yh HB.out hx532_3; replace hx532_4 := Yh HB.out hx532_4; replace p532 := eq_true p532; replace q532 := eq_true q532
     go_wp2_with (first | ((with_reducible refine gate_callee (f := 37) rfl ?_); refine goesL_ (some 18) rfl rfl Tryz.func37 Z0 rfl #[.agg #[.int .i64 ((rd_T46 l0 x5_1).f0), .string ((rd_T46 l0 x5_1).f1), .int .i32 ((rd_T46 l0 x5_1).f2), .bool ((rd_T46 l0 x5_1).f3), .int .u32 ((rd_T46 l0 x5_1).f4)]] rfl Z8 ?_; (with_reducible refine (spec_CellsOf.calls k1 ((rd_T46 l0 x5_1).f0) ((rd_T46 l0 x5_1).f1) ((rd_T46 l0 x5_1).f2) ((rd_T46 l0 x5_1).f3) ((rd_T46 l0 x5_1).f4) t533 _ A6.out).mono ?_); rintro e w8 ⟨v534, rfl, ho0, hb⟩; refine ⟨_, rfl, ?_⟩; have HO535 := Z (Kd.R_lower (Kd.R_new' ho0 (Kd.R_lt (Z6 HO_4))) (below_size Z90)); replace HO_4 := Z (Kd.R_elder' (Z6 HO_4) (Kd.R_base ho0) hb); replace HB := Z (below_step Z90 hb); (try clear hb); (try clear hb2); (try clear hk); (try clear hi); (try clear ho0); obtain ⟨Ao9, co9, eo9⟩ := Kd.R_slice HO535.out; subst eo9) | ((with_reducible refine gate_dst (N := 30) rfl ?_); (try (refine gate_guard (by rfl) ?_; dsimp only)); refine Kd.R_lit (Kd.int .u32) _ 44 (by rfl) (N := 30) (by rfl) (xs := ([] : List Int)) (inner := []) (ok := fun _ => True) (okp := fun _ => True) Z4 (Reps.none _ _) (fun _ hk => hk) trivial (Below.refl _ _) (Nat.le_refl _) (by simp) ?_; intro v537 w10 ho11 hb hg_ hnew_; clear hg_ hnew_; (first | rw [← Ny536.out] at ho11 | (simp only [Int.reduceToNat] at ho11; rw [← Ny536.out] at ho11)); have HO538 := Z (Kd.R_lower (Kd.R_new' (Kd.R_new' ho11 (Kd.R_lt (Z6 HO_4))) (Kd.R_lt (Z6 HO535))) (below_size Z90)); replace HO_4 := Z (Kd.R_elder' (Z6 HO_4) (Kd.R_base ho11) hb); replace HO535 := Z (Kd.R_elder' (Z6 HO535) (Kd.R_base ho11) hb); replace HB := Z (below_step Z90 hb); clear hb ho11))
     go_ret2
     exact ⟨_, Z91, (Z17 HO538), Z90⟩
    obtain ⟨c7b0, c7b1⟩ := Yn c7; have c7b2 : ¬ (t533 = []) := fun h_ => c7 (by rw [h_]; rfl)
    replace H := Yi H; rcases H with ⟨c12, H⟩ | ⟨c12, H⟩
    ·have c12b0 : decide (64 < (wrap64 ((x4_1.length : Int) + (t533.length : Int)))) = true := decide_eq_true c12; clear c12; obtain ⟨y539, hy539⟩ : ∃ y_ : List Int, y_ = (([] : List Int)) := ⟨_, rfl⟩; replace H : (some (y539, false)) = some (r1, r2) := Yy hy539 H; have Ny539 := Aside0.mk hy539; clear hy539; simp only [Option.some.injEq, Prod.mk.injEq] at H; obtain ⟨rfl, rfl⟩ := H; have p532 : 0 ≤ (x5_1 : Int) := of_decide_eq_true Z7; have q532 : x5_1 < (l0.length : Int) := of_decide_eq_true Z7; obtain ⟨ad532, e532, hx532_0, hx532_1, hx532_2, hx532_3, hx532_4⟩ := at_T46 HR0.out x5_1 p532 q532
     cases e532
     replace hx532_0 := Yh HB.out hx532_0; replace hx532_1 := Yh HB.out hx532_1; replace hx532_2 := Yh HB.out hx532_2; replace hx532_3 := Yh HB.out hx532_3; replace hx532_4 := Yh HB.out hx532_4; replace p532 := eq_true p532; replace q532 := eq_true q532
     go_wp2_with (first | ((with_reducible refine gate_callee (f := 37) rfl ?_); refine goesL_ (some 18) rfl rfl Tryz.func37 Z0 rfl #[.agg #[.int .i64 ((rd_T46 l0 x5_1).f0), .string ((rd_T46 l0 x5_1).f1), .int .i32 ((rd_T46 l0 x5_1).f2), .bool ((rd_T46 l0 x5_1).f3), .int .u32 ((rd_T46 l0 x5_1).f4)]] rfl Z8 ?_; (with_reducible refine (spec_CellsOf.calls k1 ((rd_T46 l0 x5_1).f0) ((rd_T46 l0 x5_1).f1) ((rd_T46 l0 x5_1).f2) ((rd_T46 l0 x5_1).f3) ((rd_T46 l0 x5_1).f4) t533 _ A6.out).mono ?_); rintro e w13 ⟨v534, rfl, ho0, hb⟩; refine ⟨_, rfl, ?_⟩; have HO535 := Z (Kd.R_lower (Kd.R_new' ho0 (Kd.R_lt (Z6 HO_4))) (below_size Z90)); replace HO_4 := Z (Kd.R_elder' (Z6 HO_4) (Kd.R_base ho0) hb); replace HB := Z (below_step Z90 hb); (try clear hb); (try clear hb2); (try clear hk); (try clear hi); (try clear ho0); obtain ⟨Ao14, co14, eo14⟩ := Kd.R_slice HO535.out; subst eo14; obtain ⟨Ao15, co15, eo15⟩ := Kd.R_slice HO_4.out; subst eo15) | ((with_reducible refine gate_dst (N := 30) rfl ?_); (try (refine gate_guard (by rfl) ?_; dsimp only)); refine Kd.R_lit (Kd.int .u32) _ 44 (by rfl) (N := 30) (by rfl) (xs := ([] : List Int)) (inner := []) (ok := fun _ => True) (okp := fun _ => True) Z4 (Reps.none _ _) (fun _ hk => hk) trivial (Below.refl _ _) (Nat.le_refl _) (by simp) ?_; intro v540 w16 ho17 hb hg_ hnew_; clear hg_ hnew_; (first | rw [← Ny539.out] at ho17 | (simp only [Int.reduceToNat] at ho17; rw [← Ny539.out] at ho17)); have HO541 := Z (Kd.R_lower (Kd.R_new' (Kd.R_new' ho17 (Kd.R_lt (Z6 HO_4))) (Kd.R_lt (Z6 HO535))) (below_size Z90)); replace HO_4 := Z (Kd.R_elder' (Z6 HO_4) (Kd.R_base ho17) hb); replace HO535 := Z (Kd.R_elder' (Z6 HO535) (Kd.R_base ho17) hb); replace HB := Z (below_step Z90 hb); clear hb ho17))
     go_ret2
     exact ⟨_, Z91, (Z17 HO541), Z90⟩
    have c12b0 : decide (64 < (wrap64 ((x4_1.length : Int) + (t533.length : Int)))) = false := decide_eq_false c12; clear c12; replace H := Yg H; obtain ⟨c18, H⟩ := H; have LMc18 := Aside0.mk c18; clear c18; obtain ⟨y542, hy542⟩ : ∃ y_ : List Int, y_ = (x4_1 ++ t533) := ⟨_, rfl⟩; replace H : (spec_Unparse.l0 k1 l0 y542 (wrap64 (x5_1 + 1))) = some (r1, r2) := Yy hy542 H; have Ny542 := Aside0.mk hy542; clear hy542; have H' := Aside0.mk H; clear H; have p532 : 0 ≤ (x5_1 : Int) := of_decide_eq_true Z7; have q532 : x5_1 < (l0.length : Int) := of_decide_eq_true Z7; obtain ⟨ad532, e532, hx532_0, hx532_1, hx532_2, hx532_3, hx532_4⟩ := at_T46 HR0.out x5_1 p532 q532
    cases e532
    replace hx532_0 := Yh HB.out hx532_0; replace hx532_1 := Yh HB.out hx532_1; replace hx532_2 := Yh HB.out hx532_2; replace hx532_3 := Yh HB.out hx532_3; replace hx532_4 := Yh HB.out hx532_4; replace p532 := eq_true p532; replace q532 := eq_true q532
    go_wp2_with (first | ((with_reducible refine gate_callee (f := 37) rfl ?_); refine goesL_ (some 18) rfl rfl Tryz.func37 Z0 rfl #[.agg #[.int .i64 ((rd_T46 l0 x5_1).f0), .string ((rd_T46 l0 x5_1).f1), .int .i32 ((rd_T46 l0 x5_1).f2), .bool ((rd_T46 l0 x5_1).f3), .int .u32 ((rd_T46 l0 x5_1).f4)]] rfl Z8 ?_; (with_reducible refine (spec_CellsOf.calls k1 ((rd_T46 l0 x5_1).f0) ((rd_T46 l0 x5_1).f1) ((rd_T46 l0 x5_1).f2) ((rd_T46 l0 x5_1).f3) ((rd_T46 l0 x5_1).f4) t533 _ A6.out).mono ?_); rintro e w19 ⟨v534, rfl, ho0, hb⟩; refine ⟨_, rfl, ?_⟩; have HO535 := Z (Kd.R_lower (Kd.R_new' ho0 (Kd.R_lt (Z6 HO_4))) (below_size Z90)); replace HO_4 := Z (Kd.R_elder' (Z6 HO_4) (Kd.R_base ho0) hb); replace HB := Z (below_step Z90 hb); (try clear hb); (try clear hb2); (try clear hk); (try clear hi); (try clear ho0); obtain ⟨Ao20, co20, eo20⟩ := Kd.R_slice HO535.out; subst eo20; obtain ⟨Ao21, co21, eo21⟩ := Kd.R_slice HO_4.out; subst eo21) | ((with_reducible refine gate_builtin (b := .append) (xs := #[.tmp 31, .tmp 32]) rfl ?_); (try (refine gate_guard (by rfl) ?_; dsimp only)); at_builtin; refine Kd.R_append_rows (Kd.int .u32) (w0 := w) w.heap.size rfl (.tmp 31) (.tmp 32) 24 44 (.int .u32 0) 4 rfl Tryz.underlying24 info44 rfl (by decide) (by omega) (.slice Ao21 x4_1.length co21) x4_1 t533 _ _ _ (fun k_ => some k_ ≠ (.slice Ao20 t533.length co20 : Value).ownBlock) (fun _ => False) rfl rfl ?aO ?aR (fun _ _ h => h) (fun _ h => h.elim) ?aF ?aB ?aS ?aL ?_; (case aR => exact (Z30 HO535)); (case aB => exact Z90); (case aF => exact (fun k_ hk => Kd.fresh' (Kd.R_lt (Z6 HO535)) k_ hk)); (case aO => exact (Z16 HO_4)); (case aS => exact (below_size Z90)); (case aL => have := LMc18.out; omega); intro v543 w22 ho hb hg hat; rw [← Ny542.out] at ho; replace HO535 := Z (Kd.R_after (ok := (fun _ => True)) (Z6 HO535) hg hat); replace HB := Z (hb); have HO544 := Z (ho); clear HO_4; clear ho hb hg hat))
    go_roundg k1
    case measure => have := HK1.out; omega
    case rel => exact ⟨(y542), (wrap64 (x5_1 + 1)), Z2, H', ⟨Z9⟩, ⟨(Z17 HO544)⟩, ⟨Z90⟩⟩
   have c4b0 := decide_eq_false c4; clear c4; simp only [Option.some.injEq, Prod.mk.injEq] at H; obtain ⟨rfl, rfl⟩ := H
   go_wp2
   go_ret2
   exact ⟨_, Z91, (Z6 HO_4), Z90⟩

def spec_l04Kind.l0 : Nat → Int → Int → Option (Int)
 | 0, _, _ => none
 | k + 1, x0, x3 => if x3 ≤ 6 then ((spec_l04Tag.f x3).bind fun t545 => (if t545 = x0 then (some x3) else (spec_l04Kind.l0 k x0 (wrap64 (x3 + 1))))) else (some (-1))
def spec_l04Kind.f (k : Nat) (a0 : Int) : Option (Int) := spec_l04Kind.l0 k a0 1
theorem spec_l04Kind.calls (k : Nat) (a0 : Int) (r : Int) (w : World) (h : spec_l04Kind.f k a0 = some r) :
  Calls Tryz.prog 90 #[.int .u32 a0] w fun e w' => e = .returned (.int .i64 r) ∧ Drawn0 w w' := by
 unfold spec_l04Kind.f at h; have H := h; clear h; have H' := Aside0.mk H; clear H; go_enter Tryz.func90, Tryz.ntmps90
 go_wp2
 go_loopg [3] k (fun kq v3 w' => ∃ (x3_1 : Int), v3 = .int .i64 x3_1 ∧ Aside0 (spec_l04Kind.l0 kq a0 x3_1 = some r) ∧ Aside0 (kq ≤ k) ∧ Drawn0 w w')
 case atStart => exact ⟨(1), Z2, H', ⟨Nat.le_refl _⟩, Z3⟩
 case round =>
  clear H'; obtain ⟨x3_1, rfl, HA, HK1, ⟨m1, rfl⟩⟩ := hrel
  cases gk with
  | zero => exact absurd HA.out (by simp [spec_l04Kind.l0])
  | succ k1 =>
   have H := HA.out; clear HA; simp only [spec_l04Kind.l0] at H; replace H := Yi H; rcases H with ⟨c2, H⟩ | ⟨c2, H⟩
   ·have c2b0 := decide_eq_true c2; clear c2; replace H := Yd H; obtain ⟨t545, A3, H⟩ := H; (try dsimp only at H); replace H := Yi H; rcases H with ⟨c4, H⟩ | ⟨c4, H⟩
    ·obtain ⟨c4b0, c4b1⟩ := Ye c4; clear c4; obtain rfl := Option.some.inj H
     go_wp2_with (first | ((with_reducible refine gate_callee (f := 67) rfl ?_); refine goesL_ (some 9) rfl rfl Tryz.func67 Z0 rfl #[.int .i64 x3_1] rfl Z8 ?_; (with_reducible refine (spec_l04Tag.calls x3_1 t545 _ A3.out).mono ?_); rintro e w' ⟨rfl, ⟨nd, rfl⟩⟩; refine ⟨_, rfl, ?_⟩))
     go_ret
     exact ⟨Z2, Z3⟩
    obtain ⟨c4b0, c4b1⟩ := Yn c4; have H' := Aside0.mk H; clear H
    go_wp2_with (first | ((with_reducible refine gate_callee (f := 67) rfl ?_); refine goesL_ (some 9) rfl rfl Tryz.func67 Z0 rfl #[.int .i64 x3_1] rfl Z8 ?_; (with_reducible refine (spec_l04Tag.calls x3_1 t545 _ A3.out).mono ?_); rintro e w' ⟨rfl, ⟨nd, rfl⟩⟩; refine ⟨_, rfl, ?_⟩))
    go_roundg k1
    case measure => have := HK1.out; omega
    case rel => exact ⟨(wrap64 (x3_1 + 1)), Z2, H', ⟨Z9⟩, Z3⟩
   have c2b0 := decide_eq_false c2; clear c2; obtain rfl := Option.some.inj H
   go_wp2
   go_ret
   exact ⟨Z2, Z3⟩

def spec_LetterAt.f (a0 : Int) : Option (Int) := (spec_l01In.f a0 0 47).bind fun t546 => (if t546 = true then ((spec_l02All.f).bind fun t547 => (if 0 ≤ a0 then (if a0 < (t547.size : Int) then (some (bt t547 a0)) else (none)) else (none))) else (some 0))
theorem spec_LetterAt.calls (a0 : Int) (r : Int) (w : World) (h : spec_LetterAt.f a0 = some r) :
  Calls Tryz.prog 98 #[.int .i64 a0] w fun e w' => e = .returned (.int .u8 r) ∧ Drawn0 w w' := by
 unfold spec_LetterAt.f at h; have H := h; clear h; replace H := Yd H; obtain ⟨t546, A2, H⟩ := H; (try dsimp only at H); by_cases c3 : t546 = true
 ·subst c3; replace H := Yt H; replace H := Yd H; obtain ⟨t547, A4, H⟩ := H; (try dsimp only at H); replace H := Yg H; obtain ⟨c5, H⟩ := H; have c5b0 := decide_eq_true c5; clear c5; replace H := Yg H; obtain ⟨c6, H⟩ := H; have c6b0 := decide_eq_true c6; clear c6; obtain rfl := Option.some.inj H; go_enter Tryz.func98, Tryz.ntmps98
  go_wp2_with (first | ((with_reducible refine gate_callee (f := 115) rfl ?_); refine goesL_ (some 4) rfl rfl Tryz.func115 Z0 rfl #[.int .i64 a0, .int .i64 0, .int .i64 47] rfl Z8 ?_; (with_reducible refine (spec_l01In.calls a0 0 47 true _ A2.out).mono ?_); rintro e w' ⟨rfl, ⟨nd, rfl⟩⟩; refine ⟨_, rfl, ?_⟩) | ((with_reducible refine gate_callee (f := 120) rfl ?_); refine goesL_ (some 6) rfl rfl Tryz.func120 Z0 rfl #[] rfl Z8 ?_; (with_reducible refine (spec_l02All.calls  t547 _ A4.out).mono ?_); rintro e w' ⟨rfl, ⟨nd, rfl⟩⟩; refine ⟨_, rfl, ?_⟩; have p7 : 0 ≤ (a0 : Int) := of_decide_eq_true Z7; have q7 : a0 < (t547.size : Int) := of_decide_eq_true Z7; have hx7 := bt_at t547 a0; replace p7 := eq_true p7; replace q7 := eq_true q7))
  go_ret
  exact ⟨Z2, Z3⟩
 replace c3 := Bool.eq_false_iff.mpr c3; subst c3; replace H := Yf H; obtain rfl := Option.some.inj H; go_enter Tryz.func98, Tryz.ntmps98
 go_wp2_with (first | ((with_reducible refine gate_callee (f := 115) rfl ?_); refine goesL_ (some 4) rfl rfl Tryz.func115 Z0 rfl #[.int .i64 a0, .int .i64 0, .int .i64 47] rfl Z8 ?_; (with_reducible refine (spec_l01In.calls a0 0 47 false _ A2.out).mono ?_); rintro e w' ⟨rfl, ⟨nd, rfl⟩⟩; refine ⟨_, rfl, ?_⟩))
 go_ret
 exact ⟨Z2, Z3⟩

def spec_Decode.l0 : Nat → Int → Int → Int → Option (Int × Int)
 | 0, _, _, _ => none
 | k + 1, x0, x1, x6 => if x6 < 48 then ((spec_WidthOf.f x6).bind fun t549 => (if t549 > x1 then (spec_Decode.l0 k x0 x1 (wrap64 (x6 + 1))) else (if 0 ≤ (IntKind.u64.wrap (x1)) then (if 0 ≤ (IntKind.u64.wrap (wrap64 (x1 - t549))) then ((spec_BitsOf.f x6).bind fun t550 => (if (shr .i64 (Go.bits .and .i64 (wrap64 (x0)) (wrap64 ((shl .i64 1 (IntKind.u64.wrap (x1))) - 1))) (IntKind.u64.wrap (wrap64 (x1 - t549)))) = (wrap64 (t550)) then (some (x6, t549)) else (spec_Decode.l0 k x0 x1 (wrap64 (x6 + 1))))) else (none)) else (none)))) else (some ((-1), 0))
def spec_Decode.f (k : Nat) (a0 : Int) (a1 : Int) : Option (Int × Int) := (spec_l01In.f a1 1 32).bind fun t548 => (if t548 = true then (spec_Decode.l0 k a0 a1 0) else (some ((-1), 0)))
theorem spec_Decode.calls (k : Nat) (a0 : Int) (a1 : Int) (r1 : Int) (r2 : Int) (w : World) (h : spec_Decode.f k a0 a1 = some (r1, r2)) :
  Calls Tryz.prog 114 #[.int .u32 a0, .int .i64 a1] w fun e w' => e = .returned (.tuple #[.int .i64 r1, .int .i64 r2]) ∧ Drawn0 w w' := by
 unfold spec_Decode.f at h; have H := h; clear h; replace H := Yd H; obtain ⟨t548, A3, H⟩ := H; (try dsimp only at H); by_cases c4 : t548 = true
 ·subst c4; replace H := Yt H; have H' := Aside0.mk H; clear H; go_enter Tryz.func114, Tryz.ntmps114
  go_wp2_with (first | ((with_reducible refine gate_callee (f := 115) rfl ?_); refine goesL_ (some 10) rfl rfl Tryz.func115 Z0 rfl #[.int .i64 a1, .int .i64 1, .int .i64 32] rfl Z8 ?_; (with_reducible refine (spec_l01In.calls a1 1 32 true _ A3.out).mono ?_); rintro e w' ⟨rfl, ⟨nd, rfl⟩⟩; refine ⟨_, rfl, ?_⟩))
  go_loopg [6] k (fun kq v6 w' => ∃ (x6_1 : Int), v6 = .int .i64 x6_1 ∧ Aside0 (spec_Decode.l0 kq a0 a1 x6_1 = some (r1, r2)) ∧ Aside0 (kq ≤ k) ∧ Drawn0 w w')
  case atStart => exact ⟨(0), Z2, H', ⟨Nat.le_refl _⟩, Z3⟩
  case round =>
   clear H'; (try clear c1); (try clear p2); (try clear c4); obtain ⟨x6_1, rfl, HA, HK1, ⟨m1, rfl⟩⟩ := hrel
   cases gk with
   | zero => exact absurd HA.out (by simp [spec_Decode.l0])
   | succ k1 =>
    have H := HA.out; clear HA; simp only [spec_Decode.l0] at H; replace H := Yi H; rcases H with ⟨c5, H⟩ | ⟨c5, H⟩
    ·have c5b0 := decide_eq_true c5; clear c5; replace H := Yd H; obtain ⟨t549, A6, H⟩ := H; (try dsimp only at H); replace H := Yi H; rcases H with ⟨c7, H⟩ | ⟨c7, H⟩
     ·have c7b0 : decide (a1 < t549) = true := decide_eq_true c7; clear c7; have H' := Aside0.mk H; clear H
      go_wp2_with (first | ((with_reducible refine gate_callee (f := 137) rfl ?_); refine goesL_ (some 17) rfl rfl Tryz.func137 Z0 rfl #[.int .i64 x6_1] rfl Z8 ?_; (with_reducible refine (spec_WidthOf.calls x6_1 t549 _ A6.out).mono ?_); rintro e w' ⟨rfl, ⟨nd, rfl⟩⟩; refine ⟨_, rfl, ?_⟩))
      go_roundg k1
      case measure => have := HK1.out; omega
      case rel => exact ⟨(wrap64 (x6_1 + 1)), Z2, H', ⟨Z9⟩, Z3⟩
     have c7b0 : decide (a1 < t549) = false := decide_eq_false c7; clear c7; obtain ⟨ji8, hji8⟩ : ∃ j_ : Int, (IntKind.u64.wrap (a1)) = j_ := ⟨_, rfl⟩; replace H : (if 0 ≤ (ji8) then (if 0 ≤ (IntKind.u64.wrap (wrap64 (a1 - t549))) then ((spec_BitsOf.f x6_1).bind fun t550 => (if (shr .i64 (Go.bits .and .i64 (wrap64 (a0)) (wrap64 ((shl .i64 1 (ji8)) - 1))) (IntKind.u64.wrap (wrap64 (a1 - t549)))) = (wrap64 (t550)) then (some (x6_1, t549)) else (spec_Decode.l0 k1 a0 a1 (wrap64 (x6_1 + 1))))) else (none)) else (none)) = some (r1, r2) := Z27
     (try rw [hji8] at A6)
     replace H := Yg H; obtain ⟨c9, H⟩ := H; have c9b0 := eq_true c9; have c9b1 := decide_eq_true c9; clear c9; obtain ⟨ji10, hji10⟩ : ∃ j_ : Int, (shl .i64 1 (ji8)) = j_ := ⟨_, rfl⟩; replace H : (if 0 ≤ (IntKind.u64.wrap (wrap64 (a1 - t549))) then ((spec_BitsOf.f x6_1).bind fun t550 => (if (shr .i64 (Go.bits .and .i64 (wrap64 (a0)) (wrap64 ((ji10) - 1))) (IntKind.u64.wrap (wrap64 (a1 - t549)))) = (wrap64 (t550)) then (some (x6_1, t549)) else (spec_Decode.l0 k1 a0 a1 (wrap64 (x6_1 + 1))))) else (none)) = some (r1, r2) := Z28
     (try rw [hji10] at A6)
     have hji10_ : (IntKind.i64.wrap (1 * 2 ^ min (ji8).toNat 64)) = ji10 := hji10; have hji10z : (ji8) ≤ 64 → (IntKind.i64.wrap (1 * 2 ^ (ji8).toNat)) = ji10 := shl_small hji10; have hji10u : (IntKind.i64.wrap (2 ^ min (ji8).toNat 64)) = ji10 := by have h_ := hji10_; rw [Int.one_mul] at h_; exact h_
     have hji10v : (ji8) ≤ 64 → (IntKind.i64.wrap (2 ^ (ji8).toNat)) = ji10 := fun hle_ => by have h_ := hji10z hle_; rw [Int.one_mul] at h_; exact h_
     have hji10y : (wrap64 (1 * 2 ^ min (ji8).toNat 64)) = ji10 := (i64_w _).symm.trans hji10_; have hji10x : (ji8) ≤ 64 → (wrap64 (1 * 2 ^ (ji8).toNat)) = ji10 := fun h_ => (i64_w _).symm.trans (hji10z h_)
     obtain ⟨ji11, hji11⟩ : ∃ j_ : Int, (IntKind.u64.wrap (wrap64 (a1 - t549))) = j_ := ⟨_, rfl⟩; replace H : (if 0 ≤ (ji11) then ((spec_BitsOf.f x6_1).bind fun t550 => (if (shr .i64 (Go.bits .and .i64 (wrap64 (a0)) (wrap64 ((ji10) - 1))) (ji11)) = (wrap64 (t550)) then (some (x6_1, t549)) else (spec_Decode.l0 k1 a0 a1 (wrap64 (x6_1 + 1))))) else (none)) = some (r1, r2) := Z51
     (try rw [hji11] at A6)
     replace H := Yg H; obtain ⟨c12, H⟩ := H; have c12b0 := eq_true c12; have c12b1 := decide_eq_true c12; clear c12; obtain ⟨ji13, hji13⟩ : ∃ j_ : Int, (shr .i64 (Go.bits .and .i64 (wrap64 (a0)) (wrap64 ((ji10) - 1))) (ji11)) = j_ := ⟨_, rfl⟩; replace H : ((spec_BitsOf.f x6_1).bind fun t550 => (if (ji13) = (wrap64 (t550)) then (some (x6_1, t549)) else (spec_Decode.l0 k1 a0 a1 (wrap64 (x6_1 + 1))))) = some (r1, r2) := Z12
     (try rw [hji13] at A6)
     have hji13_ : ((Go.bits .and .i64 (wrap64 (a0)) (wrap64 ((ji10) - 1))) / 2 ^ min (ji11).toNat 64) = ji13 := hji13; have hji13z : (ji11) ≤ 64 → ((Go.bits .and .i64 (wrap64 (a0)) (wrap64 ((ji10) - 1))) / 2 ^ (ji11).toNat) = ji13 := shr_small hji13; replace H := Yd H; obtain ⟨t550, A14, H⟩ := H; (try dsimp only at H); replace H := Yi H; rcases H with ⟨c15, H⟩ | ⟨c15, H⟩
     ·obtain ⟨c15b0, c15b1⟩ := Ye c15; clear c15; simp only [Option.some.injEq, Prod.mk.injEq] at H; obtain ⟨rfl, rfl⟩ := H
      go_wp2_with (first | ((with_reducible refine gate_callee (f := 137) rfl ?_); refine goesL_ (some 17) rfl rfl Tryz.func137 Z0 rfl #[.int .i64 x6_1] rfl Z8 ?_; (with_reducible refine (spec_WidthOf.calls x6_1 t549 _ A6.out).mono ?_); rintro e w' ⟨rfl, ⟨nd, rfl⟩⟩; refine ⟨_, rfl, ?_⟩) | ((with_reducible refine gate_callee (f := 138) rfl ?_); refine goesL_ (some 35) rfl rfl Tryz.func138 Z0 rfl #[.int .i64 x6_1] rfl Z8 ?_; (with_reducible refine (spec_BitsOf.calls x6_1 t550 _ A14.out).mono ?_); rintro e w' ⟨rfl, ⟨nd, rfl⟩⟩; refine ⟨_, rfl, ?_⟩))
      go_ret2
      exact ⟨by first | rfl | (simp; done) | (simp only [← hji8, ← hji10, ← hji11, ← hji13] <;> (first | rfl | simp)) | (simp [*]; done), Z3⟩
     obtain ⟨c15b0, c15b1⟩ := Yn c15; have H' := Aside0.mk H; clear H
     go_wp2_with (first | ((with_reducible refine gate_callee (f := 137) rfl ?_); refine goesL_ (some 17) rfl rfl Tryz.func137 Z0 rfl #[.int .i64 x6_1] rfl Z8 ?_; (with_reducible refine (spec_WidthOf.calls x6_1 t549 _ A6.out).mono ?_); rintro e w' ⟨rfl, ⟨nd, rfl⟩⟩; refine ⟨_, rfl, ?_⟩) | ((with_reducible refine gate_callee (f := 138) rfl ?_); refine goesL_ (some 35) rfl rfl Tryz.func138 Z0 rfl #[.int .i64 x6_1] rfl Z8 ?_; (with_reducible refine (spec_BitsOf.calls x6_1 t550 _ A14.out).mono ?_); rintro e w' ⟨rfl, ⟨nd, rfl⟩⟩; refine ⟨_, rfl, ?_⟩))
     go_roundg k1
     case measure => have := HK1.out; omega
     case rel => exact ⟨(wrap64 (x6_1 + 1)), Z2, H', ⟨Z9⟩, Z3⟩
    have c5b0 := decide_eq_false c5; clear c5; simp only [Option.some.injEq, Prod.mk.injEq] at H; obtain ⟨rfl, rfl⟩ := H
    go_wp2
    go_ret2
    exact ⟨Z2, Z3⟩
 replace c4 := Bool.eq_false_iff.mpr c4; subst c4; replace H := Yf H; simp only [Option.some.injEq, Prod.mk.injEq] at H; obtain ⟨rfl, rfl⟩ := H; go_enter Tryz.func114, Tryz.ntmps114
 go_wp2_with (first | ((with_reducible refine gate_callee (f := 115) rfl ?_); refine goesL_ (some 10) rfl rfl Tryz.func115 Z0 rfl #[.int .i64 a1, .int .i64 1, .int .i64 32] rfl Z8 ?_; (with_reducible refine (spec_l01In.calls a1 1 32 false _ A3.out).mono ?_); rintro e w' ⟨rfl, ⟨nd, rfl⟩⟩; refine ⟨_, rfl, ?_⟩))
 go_ret2
 exact ⟨Z2, Z3⟩

mutual
def spec_UnpackOne.l0 : Nat → Int → List Int → Int → Option (ByteArray)
 | 0, _, _, _ => none
 | k + 1, x0, x3, x4 => if x4 > 0 then (if 0 ≤ (IntKind.u64.wrap (x4)) then (spec_UnpackOne.j1 k x0 x3 x4 ((Go.bits .and .i64 (wrap64 (x0)) (wrap64 ((shl .i64 1 (IntKind.u64.wrap (x4))) - 1))) != 0)) else (none)) else (spec_UnpackOne.j1 k x0 x3 x4 false)
def spec_UnpackOne.j1 : Nat → Int → List Int → Int → Bool → Option (ByteArray)
 | 0, _, _, _, _ => none
 | k + 1, x0, x3, x4, x22 => if x22 = true then ((spec_Decode.f k x0 x4).bind fun bt554 => (if bt554.1 < 1 then (some (strOfNums x3)) else ((spec_LetterAt.f bt554.1).bind fun t556 => (if x3.length < 140737488355328 then (spec_UnpackOne.l0 k x0 (x3 ++ [t556]) (wrap64 (x4 - bt554.2))) else (none))))) else (some (strOfNums x3))
end
def spec_UnpackOne.f (k : Nat) (a0 : Int) : Option (ByteArray) := if (wrap64 (a0)) ≥ 268435456 then (some (⟨#[]⟩ : ByteArray)) else (spec_UnpackOne.l0 k a0 (([] : List Int)) 28)
theorem spec_UnpackOne.calls (k : Nat) (a0 : Int) (r : ByteArray) (w : World) (h : spec_UnpackOne.f k a0 = some r) :
  Calls Tryz.prog 94 #[.int .u32 a0] w fun e w' => e = .returned (.string r) ∧ Below w.heap.size w w' := by
 have HB := Z (Below.refl w.heap.size w); unfold spec_UnpackOne.f at h; have H := h; clear h; replace H := Yi H; rcases H with ⟨c2, H⟩ | ⟨c2, H⟩
 ·have c2b0 : decide (268435456 ≤ (wrap64 (a0))) = true := decide_eq_true c2; clear c2; obtain rfl := Option.some.inj H; go_enter Tryz.func94, Tryz.ntmps94
  go_wp2
  go_ret
  exact ⟨Z91, Z90⟩
 have c2b0 : decide (268435456 ≤ (wrap64 (a0))) = false := decide_eq_false c2; clear c2; obtain ⟨y551, hy551⟩ : ∃ y_ : List Int, y_ = (([] : List Int)) := ⟨_, rfl⟩; replace H : (spec_UnpackOne.l0 k a0 y551 28) = some r := Yy hy551 H; have Ny551 := Aside0.mk hy551; clear hy551; have H' := Aside0.mk H; clear H; go_enter Tryz.func94, Tryz.ntmps94
 go_wp2_with (first | ((with_reducible refine gate_dst (N := 10) rfl ?_); refine Kd.R_lit (Kd.int .u8) _ 5 (by rfl) (N := 10) (by rfl) (xs := ([] : List Int)) (inner := []) (ok := fun _ => True) (okp := fun _ => True) Z4 (Reps.none _ _) (fun _ hk => hk) trivial (Below.refl _ _) (Nat.le_refl _) (by simp) ?_; intro v552 w3 ho4 hb hg_ hnew_; clear hg_ hnew_; (first | rw [← Ny551.out] at ho4 | (simp only [Int.reduceToNat] at ho4; rw [← Ny551.out] at ho4)); have HO553 := Z (Kd.R_lower ho4 (below_size Z90)); replace HB := Z (below_step Z90 hb); clear hb ho4))
 go_loopg [3, 4] k (fun kq v3 v4 w' => ∃ (x3_1 : List Int) (x4_1 : Int), v4 = .int .i64 x4_1 ∧ Aside0 (spec_UnpackOne.l0 kq a0 x3_1 x4_1 = some r) ∧ Aside0 (kq ≤ k) ∧ Aside0 (Kd.R (Kd.int .u8) 5 w' w.heap.size (fun _ => True) v3 x3_1) ∧ Aside0 (Below w.heap.size w w'))
 case atStart => exact ⟨(y551), (28), Z2, H', ⟨Nat.le_refl _⟩, ⟨(Z6 HO553)⟩, ⟨Z90⟩⟩
 case round =>
  clear H'; (try clear c2); (try clear c2b0); (try clear p2); obtain ⟨x3_1, x4_1, rfl, HA, HK1, HO_3, HB⟩ := hrel
  cases gk with
  | zero => exact absurd HA.out (by simp [spec_UnpackOne.l0])
  | succ k1 =>
   have H := HA.out; clear HA; simp only [spec_UnpackOne.l0] at H; have HC5 := Aside0.mk H; clear H
   go_upto_region 5 with (fail)
   go_cut [22] (fun v22 wc => ∃ (kq : Nat) (x22_4 : Bool), v22 = .bool x22_4 ∧ Aside0 (spec_UnpackOne.j1 kq a0 x3_1 x4_1 x22_4 = some r) ∧ Aside0 (kq ≤ k1) ∧ Aside0 (Kd.R (Kd.int .u8) 5 wc w.heap.size (fun _ => True) u3 x3_1) ∧ Aside0 (Below w.heap.size w wc))
   case first =>
    have H := HC5.out; clear HC5; replace H := Yi H; rcases H with ⟨c6, H⟩ | ⟨c6, H⟩
    ·have c6b0 : decide (0 < x4_1) = true := decide_eq_true c6; clear c6
     (first | rw [c6b0] | (simp only [i64_w, i32_w]; rw [c6b0]) | skip)
     obtain ⟨ji7, hji7⟩ : ∃ j_ : Int, (IntKind.u64.wrap (x4_1)) = j_ := ⟨_, rfl⟩; replace H : (if 0 ≤ (ji7) then (spec_UnpackOne.j1 k1 a0 x3_1 x4_1 ((Go.bits .and .i64 (wrap64 (a0)) (wrap64 ((shl .i64 1 (ji7)) - 1))) != 0)) else (none)) = some r := Z22; replace H := Yg H; obtain ⟨c8, H⟩ := H; have c8b0 := eq_true c8; have c8b1 := decide_eq_true c8; clear c8; obtain ⟨ji9, hji9⟩ : ∃ j_ : Int, (shl .i64 1 (ji7)) = j_ := ⟨_, rfl⟩; replace H : (spec_UnpackOne.j1 k1 a0 x3_1 x4_1 ((Go.bits .and .i64 (wrap64 (a0)) (wrap64 ((ji9) - 1))) != 0)) = some r := Z50; have hji9_ : (IntKind.i64.wrap (1 * 2 ^ min (ji7).toNat 64)) = ji9 := hji9; have hji9z : (ji7) ≤ 64 → (IntKind.i64.wrap (1 * 2 ^ (ji7).toNat)) = ji9 := shl_small hji9; have hji9u : (IntKind.i64.wrap (2 ^ min (ji7).toNat 64)) = ji9 := by have h_ := hji9_; rw [Int.one_mul] at h_; exact h_
     have hji9v : (ji7) ≤ 64 → (IntKind.i64.wrap (2 ^ (ji7).toNat)) = ji9 := fun hle_ => by have h_ := hji9z hle_; rw [Int.one_mul] at h_; exact h_
     have hji9y : (wrap64 (1 * 2 ^ min (ji7).toNat 64)) = ji9 := (i64_w _).symm.trans hji9_; have hji9x : (ji7) ≤ 64 → (wrap64 (1 * 2 ^ (ji7).toNat)) = ji9 := fun h_ => (i64_w _).symm.trans (hji9z h_)
     have H' := Aside0.mk H; clear H
     go_wp2
     go_meet
     case rel => exact ⟨_, (((Go.bits .and .i64 (wrap64 (a0)) (wrap64 ((ji9) - 1))) != 0)), (by first | rfl | (simp; done) | (simp only [← hji9] <;> (first | rfl | simp)) | (simp [*]; done)), H', ⟨Z48⟩, ⟨(Z6 HO_3)⟩, ⟨Z90⟩⟩
    have c6b0 : decide (0 < x4_1) = false := decide_eq_false c6; clear c6
    (first | rw [c6b0] | (simp only [i64_w, i32_w]; rw [c6b0]) | skip)
    have H' := Aside0.mk H; clear H
    go_wp2
    go_meet
    case rel => exact ⟨_, (false), Z2, H', ⟨Z48⟩, ⟨(Z6 HO_3)⟩, ⟨Z90⟩⟩
   case rest =>
    clear HC5; (try clear c2); (try clear c2b0); (try clear p2); (try clear c6); (try clear c6b0); (try clear p6); (try clear c8); (try clear c8b0); (try clear c8b1); (try clear c9); (try clear p2); obtain ⟨kq, x22_4, rfl, HA, HJ4, HO_3, HB⟩ := hcut
    cases kq with
    | zero => exact absurd HA.out (by simp [spec_UnpackOne.j1])
    | succ kj4 =>
     have H := HA.out; clear HA; simp only [spec_UnpackOne.j1] at H; by_cases c10 : x22_4 = true
     ·subst c10; replace H := Yt H; replace H := Yd H; obtain ⟨⟨t554, t555⟩, A11, H⟩ := H; (try dsimp only at H); replace H := Yi H; rcases H with ⟨c12, H⟩ | ⟨c12, H⟩
      ·have c12b0 := decide_eq_true c12; clear c12; obtain rfl := Option.some.inj H
       go_wp2_with (first | ((with_reducible refine gate_callee (f := 114) rfl ?_); refine goesL_ (some 26) rfl rfl Tryz.func114 Z0 rfl #[.int .u32 a0, .int .i64 x4_1] rfl Z8 ?_; (with_reducible refine (spec_Decode.calls kj4 a0 x4_1 t554 t555 _ A11.out).mono ?_); rintro e w' ⟨rfl, ⟨nd, rfl⟩⟩; refine ⟨_, rfl, ?_⟩; have hcv13 := own_string (P := Tryz.prog) Tryz.underlying22 Tryz.underlying5 Tryz.underlying9 (Kd.own_of_R HO_3.out); have hcw13 := fun nq_ : Nat => own_string (P := Tryz.prog) Tryz.underlying22 Tryz.underlying5 Tryz.underlying9 (Kd.own_of_R (Kd.R_drewN HO_3.out nq_))))
       go_ret
       exact ⟨Z91, Z90⟩
      have c12b0 := decide_eq_false c12; clear c12; replace H := Yd H; obtain ⟨t556, A14, H⟩ := H; (try dsimp only at H); replace H := Yg H; obtain ⟨c15, H⟩ := H; have LMc15 := Aside0.mk c15; clear c15; obtain ⟨y557, hy557⟩ : ∃ y_ : List Int, y_ = (x3_1 ++ [t556]) := ⟨_, rfl⟩; replace H : (spec_UnpackOne.l0 kj4 a0 y557 (wrap64 (x4_1 - t555))) = some r := Yy hy557 H; have Ny557 := Aside0.mk hy557; clear hy557; have H' := Aside0.mk H; clear H
      go_wp2_with (first | ((with_reducible refine gate_callee (f := 114) rfl ?_); refine goesL_ (some 26) rfl rfl Tryz.func114 Z0 rfl #[.int .u32 a0, .int .i64 x4_1] rfl Z8 ?_; (with_reducible refine (spec_Decode.calls kj4 a0 x4_1 t554 t555 _ A11.out).mono ?_); rintro e w' ⟨rfl, ⟨nd, rfl⟩⟩; refine ⟨_, rfl, ?_⟩) | ((with_reducible refine gate_callee (f := 98) rfl ?_); refine goesL_ (some 33) rfl rfl Tryz.func98 Z0 rfl #[.int .i64 t554] rfl Z8 ?_; (with_reducible refine (spec_LetterAt.calls t554 t556 _ A14.out).mono ?_); rintro e w' ⟨rfl, ⟨nd, rfl⟩⟩; refine ⟨_, rfl, ?_⟩) | ((with_reducible refine gate_builtin (b := .append) (xs := #[.tmp 31, .tmp 34]) rfl ?_); at_builtin; refine Kd.R_append (Kd.int .u8) (w0 := w) w.heap.size rfl (.tmp 31) (.tmp 34) 22 5 (.int .u8 0) 1 rfl Tryz.underlying22 info5 rfl (by decide) (by omega) u3 x3_1 t556 [.int .u8 t556] (fun _ => True) (fun _ => False) rfl rfl ?aP (fun _ hk => hk.elim) ?aF ?aO ?aB ?aS ?aL ?_; (case aP => exact rfl); (case aB => exact Z90); (case aF => exact (fun _ _ => trivial)); (case aO => exact (Z6 HO_3)); (case aS => exact (below_size Z90)); (case aL => have := LMc15.out; omega); intro v558 w16 ho hb hg hat; rw [← Ny557.out] at ho; replace HB := Z (hb); have HO559 := Z (ho); clear HO_3; clear ho hb hg hat))
      go_roundg kj4
      case measure => have := HK1.out; have := HJ4.out; omega
      case rel => exact ⟨(y557), (wrap64 (x4_1 - t555)), Z2, H', ⟨Z52⟩, ⟨(Z6 HO559)⟩, ⟨Z90⟩⟩
     replace c10 := Bool.eq_false_iff.mpr c10; subst c10; replace H := Yf H; obtain rfl := Option.some.inj H; have hcv17 := own_string (P := Tryz.prog) Tryz.underlying22 Tryz.underlying5 Tryz.underlying9 (Kd.own_of_R HO_3.out); have hcw17 := fun nq_ : Nat => own_string (P := Tryz.prog) Tryz.underlying22 Tryz.underlying5 Tryz.underlying9 (Kd.own_of_R (Kd.R_drewN HO_3.out nq_))
     go_wp2
     go_ret
     exact ⟨Z91, Z90⟩

def spec_l03Same.l0 : Nat → List Int → List Int → Int → Option (Bool)
 | 0, _, _, _ => none
 | k + 1, x0, x1, x5 => if x5 < (x0.length : Int) then (if 0 ≤ x5 then (if x5 < (x1.length : Int) then (if (rd x0 x5) = (rd x1 x5) then (spec_l03Same.l0 k x0 x1 (wrap64 (x5 + 1))) else (some false)) else (none)) else (none)) else (some true)
def spec_l03Same.f (k : Nat) (l0 : List Int) (l1 : List Int) : Option (Bool) := if (l0.length : Int) = (l1.length : Int) then (spec_l03Same.l0 k l0 l1 0) else (some false)
theorem spec_l03Same.calls (k : Nat) (A0 : Option Addr) (c0 : Nat) (l0 : List Int) (A1 : Option Addr) (c1 : Nat) (l1 : List Int) (r : Bool) (w : World) (hr0 : Kd.C (Kd.int .u32) w A0 l0.length l0) (hc0 : l0.length ≤ c0) (hr1 : Kd.C (Kd.int .u32) w A1 l1.length l1) (hc1 : l1.length ≤ c1) (h : spec_l03Same.f k l0 l1 = some r) :
  Calls Tryz.prog 136 #[.slice A0 l0.length c0, .slice A1 l1.length c1] w fun e w' => e = .returned (.bool r) ∧ Drawn0 w w' := by
 have HR0 := Aside0.mk hr0; have HC0 := Aside0.mk hc0; clear hr0 hc0; have HR1 := Aside0.mk hr1; have HC1 := Aside0.mk hc1; clear hr1 hc1; unfold spec_l03Same.f at h; have H := h; clear h; replace H := Yi H; rcases H with ⟨c3, H⟩ | ⟨c3, H⟩
 ·obtain ⟨c3b0, c3b1⟩ := Ye c3; have c3b2 : (l0.length == l1.length) = true := Z26; clear c3; have H' := Aside0.mk H; clear H; go_enter Tryz.func136, Tryz.ntmps136
  go_wp2
  repeat (go_quiet (fail); try go_wp2)
  go_loopg [5] k (fun kq v5 w' => ∃ (x5_1 : Int), v5 = .int .i64 x5_1 ∧ Aside0 (spec_l03Same.l0 kq l0 l1 x5_1 = some r) ∧ Aside0 (kq ≤ k) ∧ Drawn0 w w')
  case atStart => exact ⟨(0), Z2, H', ⟨Nat.le_refl _⟩, Z3⟩
  case round =>
   clear H'; (try clear c1); (try clear p2); (try clear c3); (try clear c3b0); (try clear c3b1); (try clear c3b2); obtain ⟨x5_1, rfl, HA, HK1, ⟨m1, rfl⟩⟩ := hrel
   cases gk with
   | zero => exact absurd HA.out (by simp [spec_l03Same.l0])
   | succ k1 =>
    have H := HA.out; clear HA; simp only [spec_l03Same.l0] at H; replace H := Yi H; rcases H with ⟨c4, H⟩ | ⟨c4, H⟩
    ·have c4b0 := decide_eq_true c4; clear c4; replace H := Yg H; obtain ⟨c5, H⟩ := H; have c5b0 := decide_eq_true c5; clear c5; replace H := Yg H; obtain ⟨c6, H⟩ := H; have c6b0 := decide_eq_true c6; clear c6; replace H := Yi H; rcases H with ⟨c7, H⟩ | ⟨c7, H⟩
     ·obtain ⟨c7b0, c7b1⟩ := Ye c7; clear c7; have H' := Aside0.mk H; clear H; have p560 : 0 ≤ (x5_1 : Int) := of_decide_eq_true Z7; have q560 : x5_1 < (l0.length : Int) := of_decide_eq_true Z7; obtain ⟨ad560, e560, hx560_0⟩ := Kd.at_int HR0.out x5_1 p560 q560
      cases e560
      replace p560 := eq_true p560; replace q560 := eq_true q560; have p561 : 0 ≤ (x5_1 : Int) := of_decide_eq_true Z7; have q561 : x5_1 < (l1.length : Int) := of_decide_eq_true Z7; obtain ⟨ad561, e561, hx561_0⟩ := Kd.at_int HR1.out x5_1 p561 q561
      cases e561
      replace p561 := eq_true p561; replace q561 := eq_true q561
      go_wp2
      repeat (go_quiet (fail); try go_wp2)
      go_roundg k1
      case measure => have := HK1.out; omega
      case rel => exact ⟨(wrap64 (x5_1 + 1)), Z2, H', ⟨Z9⟩, Z3⟩
     obtain ⟨c7b0, c7b1⟩ := Yn c7; obtain rfl := Option.some.inj H; have p560 : 0 ≤ (x5_1 : Int) := of_decide_eq_true Z7; have q560 : x5_1 < (l0.length : Int) := of_decide_eq_true Z7; obtain ⟨ad560, e560, hx560_0⟩ := Kd.at_int HR0.out x5_1 p560 q560
     cases e560
     replace p560 := eq_true p560; replace q560 := eq_true q560; have p561 : 0 ≤ (x5_1 : Int) := of_decide_eq_true Z7; have q561 : x5_1 < (l1.length : Int) := of_decide_eq_true Z7; obtain ⟨ad561, e561, hx561_0⟩ := Kd.at_int HR1.out x5_1 p561 q561
     cases e561
     replace p561 := eq_true p561; replace q561 := eq_true q561
     go_wp2
     repeat (go_quiet (fail); try go_wp2)
     go_ret
     exact ⟨Z2, Z3⟩
    have c4b0 := decide_eq_false c4; clear c4; obtain rfl := Option.some.inj H
    go_wp2
    repeat (go_quiet (fail); try go_wp2)
    go_ret
    exact ⟨Z2, Z3⟩
 obtain ⟨c3b0, c3b1⟩ := Yn c3; have c3b2 : (l0.length == l1.length) = false := Z26; obtain rfl := Option.some.inj H; go_enter Tryz.func136, Tryz.ntmps136
 go_wp2
 repeat (go_quiet (fail); try go_wp2)
 go_ret
 exact ⟨Z2, Z3⟩

def spec_Unpack.l0 : Nat → List Int → ByteArray → Int → Option (ByteArray × Bool)
 | 0, _, _, _ => none
 | k + 1, x0, x4, x5 => if x5 < (x0.length : Int) then (if 0 ≤ x5 then ((spec_UnpackOne.f k (rd x0 x5)).bind fun t563 => (if x4.size + t563.size ≤ 9223372036854775807 then (spec_Unpack.l0 k x0 (x4 ++ t563) (wrap64 (x5 + 1))) else (none))) else (none)) else ((spec_NameOk.f k x4).bind fun t564 => (if t564 = true then ((spec_Pack.f k x4).bind fun t565 => ((spec_l03Same.f k t565 x0).bind fun t568 => (if t568 = true then (some (x4, true)) else (some ((⟨#[]⟩ : ByteArray), false))))) else (some ((⟨#[]⟩ : ByteArray), false))))
def spec_Unpack.f (k : Nat) (l0 : List Int) : Option (ByteArray × Bool) := if (l0.length : Int) > 24 then (some ((⟨#[]⟩ : ByteArray), false)) else (spec_Unpack.l0 k l0 (⟨#[]⟩ : ByteArray) 0)
theorem spec_Unpack.calls (k : Nat) (A0 : Option Addr) (c0 : Nat) (l0 : List Int) (r1 : ByteArray) (r2 : Bool) (w : World) (hr0 : Kd.C (Kd.int .u32) w A0 l0.length l0) (hc0 : l0.length ≤ c0) (h : spec_Unpack.f k l0 = some (r1, r2)) :
  Calls Tryz.prog 113 #[.slice A0 l0.length c0] w fun e w' => e = .returned (.tuple #[.string r1, .bool r2]) ∧ Below w.heap.size w w' := by
 have HR0 := Aside0.mk hr0; have HC0 := Aside0.mk hc0; clear hr0 hc0; have HB := Z (Below.refl w.heap.size w); unfold spec_Unpack.f at h; have H := h; clear h; replace H := Yi H; rcases H with ⟨c2, H⟩ | ⟨c2, H⟩
 ·have c2b0 : decide (24 < (l0.length : Int)) = true := decide_eq_true c2; have c2b1 : decide (24 < l0.length) = true := decide_eq_true (by omega); clear c2; simp only [Option.some.injEq, Prod.mk.injEq] at H; obtain ⟨rfl, rfl⟩ := H; go_enter Tryz.func113, Tryz.ntmps113
  go_wp2
  go_ret2
  exact ⟨Z91, Z90⟩
 have c2b0 : decide (24 < (l0.length : Int)) = false := decide_eq_false c2; have c2b1 : decide (24 < l0.length) = false := decide_eq_false (by omega); clear c2; have H' := Aside0.mk H; clear H; go_enter Tryz.func113, Tryz.ntmps113
 go_wp2
 go_loopg [4, 5] k (fun kq v4 v5 w' => ∃ (x4_1 : ByteArray) (x5_1 : Int), v4 = .string x4_1 ∧ v5 = .int .i64 x5_1 ∧ Aside0 (spec_Unpack.l0 kq l0 x4_1 x5_1 = some (r1, r2)) ∧ Aside0 (kq ≤ k) ∧ Aside0 (Below w.heap.size w w'))
 case atStart => exact ⟨((⟨#[]⟩ : ByteArray)), (0), Z2, Z2, H', ⟨Nat.le_refl _⟩, ⟨Z90⟩⟩
 case round =>
  clear H'; (try clear c1); (try clear c2); (try clear c2b0); (try clear c2b1); (try clear p2); obtain ⟨x4_1, x5_1, rfl, rfl, HA, HK1, HB⟩ := hrel
  cases gk with
  | zero => exact absurd HA.out (by simp [spec_Unpack.l0])
  | succ k1 =>
   have H := HA.out; clear HA; simp only [spec_Unpack.l0] at H; replace H := Yi H; rcases H with ⟨c3, H⟩ | ⟨c3, H⟩
   ·have c3b0 := decide_eq_true c3; clear c3; replace H := Yg H; obtain ⟨c4, H⟩ := H; have c4b0 := decide_eq_true c4; clear c4; replace H := Yd H; obtain ⟨t563, A5, H⟩ := H; (try dsimp only at H); replace H := Yg H; obtain ⟨c6, H⟩ := H; have c6b0 := eq_true c6; have c6b1 := decide_eq_true c6
    try have c6b2 : (9223372036854775807 < x4_1.size + t563.size) = False := eq_false (Nat.not_lt.2 c6)
    have H' := Aside0.mk H; clear H; have p562 : 0 ≤ (x5_1 : Int) := of_decide_eq_true Z7; have q562 : x5_1 < (l0.length : Int) := of_decide_eq_true Z7; obtain ⟨ad562, e562, hx562_0⟩ := Kd.at_int HR0.out x5_1 p562 q562
    cases e562
    replace hx562_0 := Yh HB.out hx562_0; replace p562 := eq_true p562; replace q562 := eq_true q562
    go_wp2_with (first | ((with_reducible refine gate_callee (f := 94) rfl ?_); refine goesL_ (some 20) rfl rfl Tryz.func94 Z0 rfl #[.int .u32 (rd l0 x5_1)] rfl Z8 ?_; (with_reducible refine (spec_UnpackOne.calls k1 (rd l0 x5_1) t563 _ A5.out).mono ?_); rintro e w7 ⟨rfl, hb⟩; refine ⟨_, rfl, ?_⟩; replace HB := Z (below_step Z90 hb); (try clear hb); (try clear hb2); (try clear hk); (try clear hi)))
    go_roundg k1
    case measure => have := HK1.out; omega
    case rel => exact ⟨(x4_1 ++ t563), (wrap64 (x5_1 + 1)), Z2, Z2, H', ⟨Z9⟩, ⟨Z90⟩⟩
   have c3b0 := decide_eq_false c3; clear c3; replace H := Yd H; obtain ⟨t564, A8, H⟩ := H; (try dsimp only at H); by_cases c9 : t564 = true
   ·subst c9; replace H := Yt H; replace H := Yd H; obtain ⟨t565, A10, H⟩ := H; (try dsimp only at H); replace H := Yd H; obtain ⟨t568, A11, H⟩ := H; (try dsimp only at H); by_cases c12 : t568 = true
    ·subst c12; replace H := Yt H; simp only [Option.some.injEq, Prod.mk.injEq] at H; obtain ⟨rfl, rfl⟩ := H
     go_wp2_with (first | ((with_reducible refine gate_callee (f := 118) rfl ?_); refine goesL_ (some 23) rfl rfl Tryz.func118 Z0 rfl #[.string x4_1] rfl Z8 ?_; (with_reducible refine (spec_NameOk.calls k1 x4_1 true _ A8.out).mono ?_); rintro e w' ⟨rfl, ⟨nd, rfl⟩⟩; refine ⟨_, rfl, ?_⟩) | (go_at_call 97; (with_reducible refine (spec_Pack.calls k1 x4_1 t565 _ A10.out).mono ?_); rintro e w13 ⟨v566, rfl, ho0, hb⟩; have HO567 := Z (Kd.R_lower ho0 (below_size Z90)); replace HB := Z (below_step Z90 hb); (try clear hb); (try clear hb2); (try clear hk); (try clear hi); (try clear ho0); obtain ⟨Ao14, co14, eo14⟩ := Kd.R_slice HO567.out; subst eo14) | (go_at_call 136; (with_reducible refine (spec_l03Same.calls k1 _ _ t565 _ _ l0 true _ ?side1 ?side2 ?side3 ?side4 A11.out).mono ?_); (case side1 => exact (Z30 HO567)); (case side2 => exact (Kd.R_reads' HO567.out).2.1); (case side3 => exact (Z31 HR0)); (case side4 => exact HC0.out); rintro e w' ⟨rfl, ⟨nd, rfl⟩⟩))
     go_ret2
     exact ⟨Z91, Z90⟩
    replace c12 := Bool.eq_false_iff.mpr c12; subst c12; replace H := Yf H; simp only [Option.some.injEq, Prod.mk.injEq] at H; obtain ⟨rfl, rfl⟩ := H
    go_wp2_with (first | ((with_reducible refine gate_callee (f := 118) rfl ?_); refine goesL_ (some 23) rfl rfl Tryz.func118 Z0 rfl #[.string x4_1] rfl Z8 ?_; (with_reducible refine (spec_NameOk.calls k1 x4_1 true _ A8.out).mono ?_); rintro e w' ⟨rfl, ⟨nd, rfl⟩⟩; refine ⟨_, rfl, ?_⟩) | (go_at_call 97; (with_reducible refine (spec_Pack.calls k1 x4_1 t565 _ A10.out).mono ?_); rintro e w15 ⟨v566, rfl, ho0, hb⟩; have HO567 := Z (Kd.R_lower ho0 (below_size Z90)); replace HB := Z (below_step Z90 hb); (try clear hb); (try clear hb2); (try clear hk); (try clear hi); (try clear ho0); obtain ⟨Ao16, co16, eo16⟩ := Kd.R_slice HO567.out; subst eo16) | (go_at_call 136; (with_reducible refine (spec_l03Same.calls k1 _ _ t565 _ _ l0 false _ ?side1 ?side2 ?side3 ?side4 A11.out).mono ?_); (case side1 => exact (Z30 HO567)); (case side2 => exact (Kd.R_reads' HO567.out).2.1); (case side3 => exact (Z31 HR0)); (case side4 => exact HC0.out); rintro e w' ⟨rfl, ⟨nd, rfl⟩⟩))
    go_ret2
    exact ⟨Z91, Z90⟩
   replace c9 := Bool.eq_false_iff.mpr c9; subst c9; replace H := Yf H; simp only [Option.some.injEq, Prod.mk.injEq] at H; obtain ⟨rfl, rfl⟩ := H
   go_wp2_with (first | ((with_reducible refine gate_callee (f := 118) rfl ?_); refine goesL_ (some 23) rfl rfl Tryz.func118 Z0 rfl #[.string x4_1] rfl Z8 ?_; (with_reducible refine (spec_NameOk.calls k1 x4_1 false _ A8.out).mono ?_); rintro e w' ⟨rfl, ⟨nd, rfl⟩⟩; refine ⟨_, rfl, ?_⟩))
   go_ret2
   exact ⟨Z91, Z90⟩

def spec_l04Name.l0 : Nat → List Int → Int → List Int → Int → Option (Int × ByteArray × Int × Bool × Int × Int)
 | 0, _, _, _, _ => none
 | k + 1, x0, x2, x8, x9 => if x9 < (x0.length : Int) then (if 0 ≤ x9 then (if (Int.tmod (rd x0 x9) 16) = 0 then (if (rd x0 x9) = 0 then ((spec_Unpack.f k x8).bind fun bt576 => (if bt576.2 = true then (some (x2, bt576.1, 0, false, 0, (x8.length : Int))) else (some (0, (⟨#[]⟩ : ByteArray), 0, false, 0, 0)))) else (if x8.length < 35184372088832 then (spec_l04Name.l0 k x0 x2 (x8 ++ [(Int.tdiv (rd x0 x9) 16) % 4294967296]) (wrap64 (x9 + 1))) else (none))) else ((spec_Unpack.f k x8).bind fun bt582 => (if bt582.2 = true then (some (x2, bt582.1, 0, false, 0, (x8.length : Int))) else (some (0, (⟨#[]⟩ : ByteArray), 0, false, 0, 0))))) else (none)) else ((spec_Unpack.f k x8).bind fun bt584 => (if bt584.2 = true then (some (x2, bt584.1, 0, false, 0, (x8.length : Int))) else (some (0, (⟨#[]⟩ : ByteArray), 0, false, 0, 0))))
def spec_l04Name.f (k : Nat) (l0 : List Int) (a1 : Int) (a2 : Int) : Option (Int × ByteArray × Int × Bool × Int × Int) := if 0 ≤ a1 then (if a1 < (l0.length : Int) then (spec_l04Name.l0 k l0 a2 (([(Int.tdiv (rd l0 a1) 16) % 4294967296] : List Int)) (wrap64 (a1 + 1))) else (none)) else (none)
theorem spec_l04Name.calls (k : Nat) (A0 : Option Addr) (c0 : Nat) (l0 : List Int) (a1 : Int) (a2 : Int) (r1 : Int) (r2 : ByteArray) (r3 : Int) (r4 : Bool) (r5 : Int) (r6 : Int) (w : World) (hr0 : Kd.C (Kd.int .u32) w A0 l0.length l0) (hc0 : l0.length ≤ c0) (h : spec_l04Name.f k l0 a1 a2 = some (r1, r2, r3, r4, r5, r6)) :
  Calls Tryz.prog 91 #[.slice A0 l0.length c0, .int .i64 a1, .int .i64 a2] w fun e w' => e = .returned (.tuple #[.agg #[.int .i64 r1, .string r2, .int .i32 r3, .bool r4, .int .u32 r5], .int .i64 r6]) ∧ Below w.heap.size w w' := by
 have hu46 := Tryz.underlying46; have HR0 := Aside0.mk hr0; have HC0 := Aside0.mk hc0; clear hr0 hc0; have HB := Z (Below.refl w.heap.size w); unfold spec_l04Name.f at h; have H := h; clear h; replace H := Yg H; obtain ⟨c4, H⟩ := H; have c4b0 := decide_eq_true c4; clear c4; replace H := Yg H; obtain ⟨c5, H⟩ := H; have c5b0 := decide_eq_true c5; clear c5; obtain ⟨y571, hy571⟩ : ∃ y_ : List Int, y_ = (([(Int.tdiv (rd l0 a1) 16) % 4294967296] : List Int)) := ⟨_, rfl⟩; replace H : (spec_l04Name.l0 k l0 a2 y571 (wrap64 (a1 + 1))) = some (r1, r2, r3, r4, r5, r6) := Yy hy571 H; have Ny571 := Aside0.mk hy571; clear hy571; have H' := Aside0.mk H; clear H; go_enter Tryz.func91, Tryz.ntmps91
 go_wp2_with (first | ((with_reducible refine gate_dst (N := 6) rfl ?_); refine box_event (by rfl) (N := 6) (by rfl) (cs := #[.int .i64 0, .string (⟨#[]⟩ : ByteArray), .int .i32 0, .bool false, .int .u32 0]) (t := 46) Z4 ?_; intro gb569 hg w6 hbox hb; have BK569 := Z (hbox); have GW569 := Z ((Z124 : w.heap.size ≤ gb569)); have GE569 := Z ((Z124 : w.heap.size ≤ gb569)); replace HB := Z (below_step Z90 hb); clear hb hbox hg; have p570 : 0 ≤ (a1 : Int) := of_decide_eq_true Z7; have q570 : a1 < (l0.length : Int) := of_decide_eq_true Z7; obtain ⟨ad570, e570, hx570_0⟩ := Kd.at_int HR0.out a1 p570 q570; cases e570; replace hx570_0 := Yh HB.out hx570_0; replace p570 := eq_true p570; replace q570 := eq_true q570) | ((with_reducible refine gate_dst (N := 17) rfl ?_); refine Kd.R_lit (Kd.int .u32) _ 44 (by rfl) (N := 17) (by rfl) (xs := ([(Int.tdiv (rd l0 a1) 16) % 4294967296] : List Int)) (inner := [.int .u32 ((Int.tdiv (rd l0 a1) 16) % 4294967296)]) (ok := fun _ => True) (okp := fun _ => True) Z4 (Reps.one (show Kd.M (Kd.int .u32) _ _ _ ((Int.tdiv (rd l0 a1) 16) % 4294967296) [.int .u32 ((Int.tdiv (rd l0 a1) 16) % 4294967296)] from rfl) (Reps.none _ _)) (fun _ hk => hk) trivial (Below.refl _ _) (Nat.le_refl _) (by simp) ?_; intro v572 w7 ho8 hb hg_ hnew_; clear hg_ hnew_; (first | rw [← Ny571.out] at ho8 | (simp only [Int.reduceToNat] at ho8; rw [← Ny571.out] at ho8)); have HO573 := Z (Kd.R_lower ho8 (below_size Z90)); replace BK569 := Z (Yk8 BK569 hb); replace HB := Z (below_step Z90 hb); clear hb ho8))
 go_loopg [8, 9] k (fun kq v8 v9 w' => ∃ (x8_1 : List Int) (x9_1 : Int), v9 = .int .i64 x9_1 ∧ Aside0 (spec_l04Name.l0 kq l0 a2 x8_1 x9_1 = some (r1, r2, r3, r4, r5, r6)) ∧ Aside0 (kq ≤ k) ∧ Aside0 (Kd.R (Kd.int .u32) 44 w' w.heap.size (fun _ => True) v8 x8_1) ∧ Aside0 (w'.heap[gb569]? = some (.cells #[.int .i64 0, .string (⟨#[]⟩ : ByteArray), .int .i32 0, .bool false, .int .u32 0] 46 (0, 0))) ∧ Aside0 (Below w.heap.size w w'))
 case atStart => exact ⟨(y571), (wrap64 (a1 + 1)), Z2, H', ⟨Nat.le_refl _⟩, ⟨(Z6 HO573)⟩, ⟨(Z15 BK569)⟩, ⟨Z90⟩⟩
 case round =>
  clear H'; (try clear p2); (try clear c4); (try clear c4b0); (try clear c5); (try clear c5b0); (try clear p5); (try clear q5); (try clear hx5); (try clear p6); (try clear hx570_0); (try clear p570); (try clear q570); obtain ⟨x8_1, x9_1, rfl, HA, HK1, HO_8, BK569, HB⟩ := hrel
  cases gk with
  | zero => exact absurd HA.out (by simp [spec_l04Name.l0])
  | succ k1 =>
   have H := HA.out; clear HA; simp only [spec_l04Name.l0] at H; replace H := Yi H; rcases H with ⟨c9, H⟩ | ⟨c9, H⟩
   ·have c9b0 := decide_eq_true c9; clear c9; replace H := Yg H; obtain ⟨c10, H⟩ := H; have c10b0 := decide_eq_true c10; clear c10; replace H := Yi H; rcases H with ⟨c11, H⟩ | ⟨c11, H⟩
    ·obtain ⟨c11b0, c11b1⟩ := Ye c11; clear c11; replace H := Yi H; rcases H with ⟨c12, H⟩ | ⟨c12, H⟩
     ·obtain ⟨c12b0, c12b1⟩ := Ye c12; clear c12; replace H := Yd H; obtain ⟨⟨t576, t577⟩, A13, H⟩ := H; (try dsimp only at H); by_cases c14 : t577 = true
      ·subst c14; replace H := Yt H; simp only [Option.some.injEq, Prod.mk.injEq] at H; obtain ⟨rfl, rfl, rfl, rfl, rfl, rfl⟩ := H; have p574 : 0 ≤ (x9_1 : Int) := of_decide_eq_true Z7; have q574 : x9_1 < (l0.length : Int) := of_decide_eq_true Z7; obtain ⟨ad574, e574, hx574_0⟩ := Kd.at_int HR0.out x9_1 p574 q574; obtain rfl : ad570 = ad574 := (by injection e574); replace hx574_0 := Yh HB.out hx574_0; replace p574 := eq_true p574; replace q574 := eq_true q574; have p575 : 0 ≤ (x9_1 : Int) := of_decide_eq_true Z7; have q575 : x9_1 < (l0.length : Int) := of_decide_eq_true Z7; obtain ⟨ad575, e575, hx575_0⟩ := Kd.at_int HR0.out x9_1 p575 q575; obtain rfl : ad570 = ad575 := (by injection e575); replace hx575_0 := Yh HB.out hx575_0; replace p575 := eq_true p575; replace q575 := eq_true q575; obtain ⟨Ao15, co15, eo15⟩ := Kd.R_slice HO_8.out; subst eo15
       go_wp2_with (first | ((with_reducible refine gate_callee (f := 113) rfl ?_); refine goesL_ (some 51) rfl rfl Tryz.func113 Z0 rfl #[.slice Ao15 x8_1.length co15] rfl Z8 ?_; (with_reducible refine (spec_Unpack.calls k1 _ _ x8_1 t576 true _ ?side1 ?side2 A13.out).mono ?_); (case side1 => exact (Z30 HO_8)); (case side2 => exact (Kd.R_reads' HO_8.out).2.1); rintro e w16 ⟨rfl, hb⟩; refine ⟨_, rfl, ?_⟩; replace HO_8 := Z (Kd.R_below (Z6 HO_8) hb); replace BK569 := Z (Yk8 BK569 hb); replace HB := Z (below_step Z90 hb); (try clear hb); (try clear hb2); (try clear hk); (try clear hi); have hcz17 := Yb5 BK569.out))
       refine bodyPost_ret (results_ct rfl _ _ gb569 46 #[.int .i64 a2, .string t576, .int .i32 0, .bool false, .int .u32 0] (0, 0) _ rfl (by (with_reducible repeat (first | refine blk_drewN ?_ _ | refine blk_drew ?_ | refine blk_alloc ?_ _)); refine blk_put (cs := #[.int .i64 a2, .string t576, .int .i32 0, .bool false, .int .u32 0]) ?_ 4 _ rfl; (with_reducible repeat (first | refine blk_drewN ?_ _ | refine blk_drew ?_ | refine blk_alloc ?_ _)); refine blk_put (cs := #[.int .i64 a2, .string t576, .int .i32 0, .bool false, .int .u32 0]) ?_ 3 _ rfl; (with_reducible repeat (first | refine blk_drewN ?_ _ | refine blk_drew ?_ | refine blk_alloc ?_ _)); refine blk_put (cs := #[.int .i64 a2, .string t576, .int .i32 0, .bool false, .int .u32 0]) ?_ 2 _ rfl; (with_reducible repeat (first | refine blk_drewN ?_ _ | refine blk_drew ?_ | refine blk_alloc ?_ _)); refine blk_put (cs := #[.int .i64 a2, .string (⟨#[]⟩ : ByteArray), .int .i32 0, .bool false, .int .u32 0]) ?_ 1 _ rfl; (with_reducible repeat (first | refine blk_drewN ?_ _ | refine blk_drew ?_ | refine blk_alloc ?_ _)); refine blk_put (cs := #[.int .i64 0, .string (⟨#[]⟩ : ByteArray), .int .i32 0, .bool false, .int .u32 0]) ?_ 0 _ rfl; (with_reducible repeat (first | refine blk_drewN ?_ _ | refine blk_drew ?_ | refine blk_alloc ?_ _)); exact BK569.out) Tryz.underlying46 rfl Z0) rfl ?_
       exact ⟨Z91, Z90⟩
      replace c14 := Bool.eq_false_iff.mpr c14; subst c14; replace H := Yf H; simp only [Option.some.injEq, Prod.mk.injEq] at H; obtain ⟨rfl, rfl, rfl, rfl, rfl, rfl⟩ := H; have p574 : 0 ≤ (x9_1 : Int) := of_decide_eq_true Z7; have q574 : x9_1 < (l0.length : Int) := of_decide_eq_true Z7; obtain ⟨ad574, e574, hx574_0⟩ := Kd.at_int HR0.out x9_1 p574 q574; obtain rfl : ad570 = ad574 := (by injection e574); replace hx574_0 := Yh HB.out hx574_0; replace p574 := eq_true p574; replace q574 := eq_true q574; have p575 : 0 ≤ (x9_1 : Int) := of_decide_eq_true Z7; have q575 : x9_1 < (l0.length : Int) := of_decide_eq_true Z7; obtain ⟨ad575, e575, hx575_0⟩ := Kd.at_int HR0.out x9_1 p575 q575; obtain rfl : ad570 = ad575 := (by injection e575); replace hx575_0 := Yh HB.out hx575_0; replace p575 := eq_true p575; replace q575 := eq_true q575; obtain ⟨Ao18, co18, eo18⟩ := Kd.R_slice HO_8.out; subst eo18
      go_wp2_with (first | ((with_reducible refine gate_callee (f := 113) rfl ?_); refine goesL_ (some 51) rfl rfl Tryz.func113 Z0 rfl #[.slice Ao18 x8_1.length co18] rfl Z8 ?_; (with_reducible refine (spec_Unpack.calls k1 _ _ x8_1 t576 false _ ?side1 ?side2 A13.out).mono ?_); (case side1 => exact (Z30 HO_8)); (case side2 => exact (Kd.R_reads' HO_8.out).2.1); rintro e w19 ⟨rfl, hb⟩; refine ⟨_, rfl, ?_⟩; replace HO_8 := Z (Kd.R_below (Z6 HO_8) hb); replace BK569 := Z (Yk8 BK569 hb); replace HB := Z (below_step Z90 hb); (try clear hb); (try clear hb2); (try clear hk); (try clear hi); have hcz20 := Yb5 BK569.out))
      refine bodyPost_ret (results_ct rfl _ _ gb569 46 #[.int .i64 0, .string (⟨#[]⟩ : ByteArray), .int .i32 0, .bool false, .int .u32 0] (0, 0) _ rfl (Z24 BK569) Tryz.underlying46 rfl Z0) rfl ?_
      exact ⟨Z91, Z90⟩
     obtain ⟨c12b0, c12b1⟩ := Yn c12; replace H := Yg H; obtain ⟨c21, H⟩ := H; have LMc21 := Aside0.mk c21; clear c21; obtain ⟨y579, hy579⟩ : ∃ y_ : List Int, y_ = (x8_1 ++ [(Int.tdiv (rd l0 x9_1) 16) % 4294967296]) := ⟨_, rfl⟩; replace H : (spec_l04Name.l0 k1 l0 a2 y579 (wrap64 (x9_1 + 1))) = some (r1, r2, r3, r4, r5, r6) := Yy hy579 H; have Ny579 := Aside0.mk hy579; clear hy579; have H' := Aside0.mk H; clear H; have p574 : 0 ≤ (x9_1 : Int) := of_decide_eq_true Z7; have q574 : x9_1 < (l0.length : Int) := of_decide_eq_true Z7; obtain ⟨ad574, e574, hx574_0⟩ := Kd.at_int HR0.out x9_1 p574 q574; obtain rfl : ad570 = ad574 := (by injection e574); replace hx574_0 := Yh HB.out hx574_0; replace p574 := eq_true p574; replace q574 := eq_true q574; have p575 : 0 ≤ (x9_1 : Int) := of_decide_eq_true Z7; have q575 : x9_1 < (l0.length : Int) := of_decide_eq_true Z7; obtain ⟨ad575, e575, hx575_0⟩ := Kd.at_int HR0.out x9_1 p575 q575; obtain rfl : ad570 = ad575 := (by injection e575); replace hx575_0 := Yh HB.out hx575_0; replace p575 := eq_true p575; replace q575 := eq_true q575; have p578 : 0 ≤ (x9_1 : Int) := of_decide_eq_true Z7; have q578 : x9_1 < (l0.length : Int) := of_decide_eq_true Z7; obtain ⟨ad578, e578, hx578_0⟩ := Kd.at_int HR0.out x9_1 p578 q578; obtain rfl : ad570 = ad578 := (by injection e578); replace hx578_0 := Yh HB.out hx578_0; replace p578 := eq_true p578; replace q578 := eq_true q578
     go_wp2_with (first | ((with_reducible refine gate_builtin (b := .append) (xs := #[.tmp 41, .tmp 47]) rfl ?_); at_builtin; refine Kd.R_append (Kd.int .u32) (w0 := w) w.heap.size rfl (.tmp 41) (.tmp 47) 24 44 (.int .u32 0) 4 rfl Tryz.underlying24 info44 rfl (by decide) (by omega) u8 x8_1 ((Int.tdiv (rd l0 x9_1) 16) % 4294967296) [.int .u32 ((Int.tdiv (rd l0 x9_1) 16) % 4294967296)] (fun _ => True) (fun _ => False) rfl rfl ?aP (fun _ hk => hk.elim) ?aF ?aO ?aB ?aS ?aL ?_; (case aP => exact rfl); (case aB => exact Z90); (case aF => exact (fun _ _ => trivial)); (case aO => exact (Z6 HO_8)); (case aS => exact (below_size Z90)); (case aL => have := LMc21.out; omega); intro v580 w22 ho hb hg hat; rw [← Ny579.out] at ho; replace BK569 := Z (blk_grown (g := gb569) (o := .cells #[.int .i64 0, .string (⟨#[]⟩ : ByteArray), .int .i32 0, .bool false, .int .u32 0] 46 (0, 0)) (Z15 BK569) hg (Kd.R_ne HO_8.out BK569.out (by decide))); replace HB := Z (hb); have HO581 := Z (ho); clear HO_8; clear ho hb hg hat))
     go_roundg k1
     case measure => have := HK1.out; omega
     case rel => exact ⟨(y579), (wrap64 (x9_1 + 1)), Z2, H', ⟨Z9⟩, ⟨(Z6 HO581)⟩, ⟨(Z15 BK569)⟩, ⟨Z90⟩⟩
    obtain ⟨c11b0, c11b1⟩ := Yn c11; replace H := Yd H; obtain ⟨⟨t582, t583⟩, A23, H⟩ := H; (try dsimp only at H); by_cases c24 : t583 = true
    ·subst c24; replace H := Yt H; simp only [Option.some.injEq, Prod.mk.injEq] at H; obtain ⟨rfl, rfl, rfl, rfl, rfl, rfl⟩ := H; have p574 : 0 ≤ (x9_1 : Int) := of_decide_eq_true Z7; have q574 : x9_1 < (l0.length : Int) := of_decide_eq_true Z7; obtain ⟨ad574, e574, hx574_0⟩ := Kd.at_int HR0.out x9_1 p574 q574; obtain rfl : ad570 = ad574 := (by injection e574); replace hx574_0 := Yh HB.out hx574_0; replace p574 := eq_true p574; replace q574 := eq_true q574; obtain ⟨Ao25, co25, eo25⟩ := Kd.R_slice HO_8.out; subst eo25
     go_wp2_with (first | ((with_reducible refine gate_callee (f := 113) rfl ?_); refine goesL_ (some 51) rfl rfl Tryz.func113 Z0 rfl #[.slice Ao25 x8_1.length co25] rfl Z8 ?_; (with_reducible refine (spec_Unpack.calls k1 _ _ x8_1 t582 true _ ?side1 ?side2 A23.out).mono ?_); (case side1 => exact (Z30 HO_8)); (case side2 => exact (Kd.R_reads' HO_8.out).2.1); rintro e w26 ⟨rfl, hb⟩; refine ⟨_, rfl, ?_⟩; replace HO_8 := Z (Kd.R_below (Z6 HO_8) hb); replace BK569 := Z (Yk8 BK569 hb); replace HB := Z (below_step Z90 hb); (try clear hb); (try clear hb2); (try clear hk); (try clear hi); have hcz27 := Yb5 BK569.out))
     refine bodyPost_ret (results_ct rfl _ _ gb569 46 #[.int .i64 a2, .string t582, .int .i32 0, .bool false, .int .u32 0] (0, 0) _ rfl (by (with_reducible repeat (first | refine blk_drewN ?_ _ | refine blk_drew ?_ | refine blk_alloc ?_ _)); refine blk_put (cs := #[.int .i64 a2, .string t582, .int .i32 0, .bool false, .int .u32 0]) ?_ 4 _ rfl; (with_reducible repeat (first | refine blk_drewN ?_ _ | refine blk_drew ?_ | refine blk_alloc ?_ _)); refine blk_put (cs := #[.int .i64 a2, .string t582, .int .i32 0, .bool false, .int .u32 0]) ?_ 3 _ rfl; (with_reducible repeat (first | refine blk_drewN ?_ _ | refine blk_drew ?_ | refine blk_alloc ?_ _)); refine blk_put (cs := #[.int .i64 a2, .string t582, .int .i32 0, .bool false, .int .u32 0]) ?_ 2 _ rfl; (with_reducible repeat (first | refine blk_drewN ?_ _ | refine blk_drew ?_ | refine blk_alloc ?_ _)); refine blk_put (cs := #[.int .i64 a2, .string (⟨#[]⟩ : ByteArray), .int .i32 0, .bool false, .int .u32 0]) ?_ 1 _ rfl; (with_reducible repeat (first | refine blk_drewN ?_ _ | refine blk_drew ?_ | refine blk_alloc ?_ _)); refine blk_put (cs := #[.int .i64 0, .string (⟨#[]⟩ : ByteArray), .int .i32 0, .bool false, .int .u32 0]) ?_ 0 _ rfl; (with_reducible repeat (first | refine blk_drewN ?_ _ | refine blk_drew ?_ | refine blk_alloc ?_ _)); exact BK569.out) Tryz.underlying46 rfl Z0) rfl ?_
     exact ⟨Z91, Z90⟩
    replace c24 := Bool.eq_false_iff.mpr c24; subst c24; replace H := Yf H; simp only [Option.some.injEq, Prod.mk.injEq] at H; obtain ⟨rfl, rfl, rfl, rfl, rfl, rfl⟩ := H; have p574 : 0 ≤ (x9_1 : Int) := of_decide_eq_true Z7; have q574 : x9_1 < (l0.length : Int) := of_decide_eq_true Z7; obtain ⟨ad574, e574, hx574_0⟩ := Kd.at_int HR0.out x9_1 p574 q574; obtain rfl : ad570 = ad574 := (by injection e574); replace hx574_0 := Yh HB.out hx574_0; replace p574 := eq_true p574; replace q574 := eq_true q574; obtain ⟨Ao28, co28, eo28⟩ := Kd.R_slice HO_8.out; subst eo28
    go_wp2_with (first | ((with_reducible refine gate_callee (f := 113) rfl ?_); refine goesL_ (some 51) rfl rfl Tryz.func113 Z0 rfl #[.slice Ao28 x8_1.length co28] rfl Z8 ?_; (with_reducible refine (spec_Unpack.calls k1 _ _ x8_1 t582 false _ ?side1 ?side2 A23.out).mono ?_); (case side1 => exact (Z30 HO_8)); (case side2 => exact (Kd.R_reads' HO_8.out).2.1); rintro e w29 ⟨rfl, hb⟩; refine ⟨_, rfl, ?_⟩; replace HO_8 := Z (Kd.R_below (Z6 HO_8) hb); replace BK569 := Z (Yk8 BK569 hb); replace HB := Z (below_step Z90 hb); (try clear hb); (try clear hb2); (try clear hk); (try clear hi); have hcz30 := Yb5 BK569.out))
    refine bodyPost_ret (results_ct rfl _ _ gb569 46 #[.int .i64 0, .string (⟨#[]⟩ : ByteArray), .int .i32 0, .bool false, .int .u32 0] (0, 0) _ rfl (Z24 BK569) Tryz.underlying46 rfl Z0) rfl ?_
    exact ⟨Z91, Z90⟩
   have c9b0 := decide_eq_false c9; clear c9; replace H := Yd H; obtain ⟨⟨t584, t585⟩, A31, H⟩ := H; (try dsimp only at H); by_cases c32 : t585 = true
   ·subst c32; replace H := Yt H; simp only [Option.some.injEq, Prod.mk.injEq] at H; obtain ⟨rfl, rfl, rfl, rfl, rfl, rfl⟩ := H; obtain ⟨Ao33, co33, eo33⟩ := Kd.R_slice HO_8.out; subst eo33
    go_wp2_with (first | ((with_reducible refine gate_callee (f := 113) rfl ?_); refine goesL_ (some 51) rfl rfl Tryz.func113 Z0 rfl #[.slice Ao33 x8_1.length co33] rfl Z8 ?_; (with_reducible refine (spec_Unpack.calls k1 _ _ x8_1 t584 true _ ?side1 ?side2 A31.out).mono ?_); (case side1 => exact (Z30 HO_8)); (case side2 => exact (Kd.R_reads' HO_8.out).2.1); rintro e w34 ⟨rfl, hb⟩; refine ⟨_, rfl, ?_⟩; replace HO_8 := Z (Kd.R_below (Z6 HO_8) hb); replace BK569 := Z (Yk8 BK569 hb); replace HB := Z (below_step Z90 hb); (try clear hb); (try clear hb2); (try clear hk); (try clear hi); have hcz35 := Yb5 BK569.out))
    refine bodyPost_ret (results_ct rfl _ _ gb569 46 #[.int .i64 a2, .string t584, .int .i32 0, .bool false, .int .u32 0] (0, 0) _ rfl (by (with_reducible repeat (first | refine blk_drewN ?_ _ | refine blk_drew ?_ | refine blk_alloc ?_ _)); refine blk_put (cs := #[.int .i64 a2, .string t584, .int .i32 0, .bool false, .int .u32 0]) ?_ 4 _ rfl; (with_reducible repeat (first | refine blk_drewN ?_ _ | refine blk_drew ?_ | refine blk_alloc ?_ _)); refine blk_put (cs := #[.int .i64 a2, .string t584, .int .i32 0, .bool false, .int .u32 0]) ?_ 3 _ rfl; (with_reducible repeat (first | refine blk_drewN ?_ _ | refine blk_drew ?_ | refine blk_alloc ?_ _)); refine blk_put (cs := #[.int .i64 a2, .string t584, .int .i32 0, .bool false, .int .u32 0]) ?_ 2 _ rfl; (with_reducible repeat (first | refine blk_drewN ?_ _ | refine blk_drew ?_ | refine blk_alloc ?_ _)); refine blk_put (cs := #[.int .i64 a2, .string (⟨#[]⟩ : ByteArray), .int .i32 0, .bool false, .int .u32 0]) ?_ 1 _ rfl; (with_reducible repeat (first | refine blk_drewN ?_ _ | refine blk_drew ?_ | refine blk_alloc ?_ _)); refine blk_put (cs := #[.int .i64 0, .string (⟨#[]⟩ : ByteArray), .int .i32 0, .bool false, .int .u32 0]) ?_ 0 _ rfl; (with_reducible repeat (first | refine blk_drewN ?_ _ | refine blk_drew ?_ | refine blk_alloc ?_ _)); exact BK569.out) Tryz.underlying46 rfl Z0) rfl ?_
    exact ⟨Z91, Z90⟩
   replace c32 := Bool.eq_false_iff.mpr c32; subst c32; replace H := Yf H; simp only [Option.some.injEq, Prod.mk.injEq] at H; obtain ⟨rfl, rfl, rfl, rfl, rfl, rfl⟩ := H; obtain ⟨Ao36, co36, eo36⟩ := Kd.R_slice HO_8.out; subst eo36
   go_wp2_with (first | ((with_reducible refine gate_callee (f := 113) rfl ?_); refine goesL_ (some 51) rfl rfl Tryz.func113 Z0 rfl #[.slice Ao36 x8_1.length co36] rfl Z8 ?_; (with_reducible refine (spec_Unpack.calls k1 _ _ x8_1 t584 false _ ?side1 ?side2 A31.out).mono ?_); (case side1 => exact (Z30 HO_8)); (case side2 => exact (Kd.R_reads' HO_8.out).2.1); rintro e w37 ⟨rfl, hb⟩; refine ⟨_, rfl, ?_⟩; replace HO_8 := Z (Kd.R_below (Z6 HO_8) hb); replace BK569 := Z (Yk8 BK569 hb); replace HB := Z (below_step Z90 hb); (try clear hb); (try clear hb2); (try clear hk); (try clear hi); have hcz38 := Yb5 BK569.out))
   refine bodyPost_ret (results_ct rfl _ _ gb569 46 #[.int .i64 0, .string (⟨#[]⟩ : ByteArray), .int .i32 0, .bool false, .int .u32 0] (0, 0) _ rfl (Z24 BK569) Tryz.underlying46 rfl Z0) rfl ?_
   exact ⟨Z91, Z90⟩

end Go.Proofs.YtfjmpdcflnaogaaGreatDoor.QFnExactImport
