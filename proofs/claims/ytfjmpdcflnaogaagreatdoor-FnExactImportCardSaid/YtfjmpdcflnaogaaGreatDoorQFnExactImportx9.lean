/-
Plain functions for the Go functions that a law reaches, each with a proof that the translation's call comes to just that; no conditions beyond those written in each.
-/
import Derived.Test.YtfjmpdcflnaogaaGreatDoorSFnExactImport
import Derived.Test.YtfjmpdcflnaogaaGreatDoorQFnExactImportx6
import Derived.Test.YtfjmpdcflnaogaaGreatDoorQFnExactImportx8
import Derived.Test.YtfjmpdcflnaogaaGreatDoorQFnExactImportx1
namespace Go.Proofs.YtfjmpdcflnaogaaGreatDoor.QFnExactImport
open Go.RowKit Go.Proofs.YtfjmpdcflnaogaaGreatDoorW.PrintWords Go.Proofs.YtfjmpdcflnaogaaGreatDoorW.PrintLast Go.Proofs.YtfjmpdcflnaogaaGreatDoorW.PrintMore
attribute [local go_sem] max2_int min2_int max_two min_two max_three min_three max_four min_four   -- for this text's walks alone
set_option linter.unusedVariables false
set_option maxHeartbeats 8000000
set_option maxRecDepth 100000
set_option linter.unusedSimpArgs false

theorem Yk9 {X W w1 : World} {g : Nat} {o : Obj} (h : Aside0 (X.heap[g]? = some o)) (hb : Below W.heap.size W w1) (e : X.heap[g]? = some o → W.heap[g]? = some o := by intro h_; repeat (first | (with_reducible exact h_) | (with_reducible first | refine blk_drewN ?_ _ | refine blk_drew ?_ | refine blk_alloc ?_ _) | refine blk_far ?_ (Aside0.out (by assumption)) _ | exact h_)) : w1.heap[g]? = some o := blk_below (e h.out) hb
mutual
def spec_l04Number.j0 : Nat → List Int → Int → Int → Int → Bool → Int → ByteArray → Int → Bool → Int → Option (Int × ByteArray × Int × Bool × Int × Int)
 | 0, _, _, _, _, _, _, _, _, _, _ => none
 | k + 1, x0, x1, x6, x7, x24, x589000, x589001, x589002, x589003, x589004 => if x24 = true then (spec_l04Number.j1 k x0 x1 x6 x7 8 x589001 x589002 x589003 x589004) else (spec_l04Number.j1 k x0 x1 x6 x7 x589000 x589001 x589002 x589003 x589004)
def spec_l04Number.j1 : Nat → List Int → Int → Int → Int → Int → ByteArray → Int → Bool → Int → Option (Int × ByteArray × Int × Bool × Int × Int)
 | 0, _, _, _, _, _, _, _, _, _ => none
 | k + 1, x0, x1, x6, x7, x589000, x589001, x589002, x589003, x589004 => if x7 = 8 then (spec_l04Number.j2 k x0 x1 x6 true x589000 x589001 x589002 x589003 x589004) else (spec_l04Number.j2 k x0 x1 x6 (x7 == 6) x589000 x589001 x589002 x589003 x589004)
def spec_l04Number.j2 : Nat → List Int → Int → Int → Bool → Int → ByteArray → Int → Bool → Int → Option (Int × ByteArray × Int × Bool × Int × Int)
 | 0, _, _, _, _, _, _, _, _, _ => none
 | k + 1, x0, x1, x6, x31, x589000, x589001, x589002, x589003, x589004 => if x31 = true then (some (x589000, x589001, (wrap32 (x6)) / 32, x589003, x589004, 1)) else (if (wrap64 (x1 + 1)) ≥ (x0.length : Int) then (some (0, (⟨#[]⟩ : ByteArray), 0, false, 0, 0)) else (if ((Int.tdiv x6 32) % 4294967296) = 0 then (if 0 ≤ (wrap64 (x1 + 1)) then (if (wrap64 (x1 + 1)) < (x0.length : Int) then ((spec_CellsOf.f k x589000 x589001 (wrap32 (rd x0 (wrap64 (x1 + 1)))) x589003 x589004).bind fun t590 => (some (x589000, x589001, wrap32 (rd x0 (wrap64 (x1 + 1))), x589003, x589004, wrap64 ((wrap64 ((t590.length : Int) / 2)) * 2)))) else (none)) else (none)) else (some (0, (⟨#[]⟩ : ByteArray), 0, false, 0, 0))))
end
def spec_l04Number.f (k : Nat) (l0 : List Int) (a1 : Int) : Option (Int × ByteArray × Int × Bool × Int × Int) := if 0 ≤ a1 then (if a1 < (l0.length : Int) then (if (Int.tmod (rd l0 a1) 16) = 6 then (spec_l04Number.j0 k l0 a1 (rd l0 a1) (Int.tmod (rd l0 a1) 16) true 7 (⟨#[]⟩ : ByteArray) 0 ((Go.bits .and .u32 (rd l0 a1) 16) != 0) 0) else (spec_l04Number.j0 k l0 a1 (rd l0 a1) (Int.tmod (rd l0 a1) 16) ((Int.tmod (rd l0 a1) 16) == 5) 7 (⟨#[]⟩ : ByteArray) 0 ((Go.bits .and .u32 (rd l0 a1) 16) != 0) 0)) else (none)) else (none)
def spec_l04Number.T12 : Bool × List (List Nat × List Nat) := (true, [([], []), ([], []), ([1], [1]), ([2], [2]), ([3], [3]), ([4], [4]), ([0, 2, 0], [0]), ([5, 6, 0, 1, 2, 3, 4, 5, 6], [5])])
def spec_l04Number.B12 : List Nat := [0, 0, 2, 6, 14, 30, 7, 127]
theorem spec_l04Number.tab12 : rtab .any (opsOf Tryz.f92 12) = spec_l04Number.T12 := Z0
theorem spec_l04Number.bits12 : waitsOk spec_l04Number.T12.2 spec_l04Number.B12 = true := Z0
theorem spec_l04Number.calls (k : Nat) (A0 : Option Addr) (c0 : Nat) (l0 : List Int) (a1 : Int) (r1 : Int) (r2 : ByteArray) (r3 : Int) (r4 : Bool) (r5 : Int) (r6 : Int) (w : World) (hr0 : Kd.C (Kd.int .u32) w A0 l0.length l0) (hc0 : l0.length ≤ c0) (h : spec_l04Number.f k l0 a1 = some (r1, r2, r3, r4, r5, r6)) :
  Calls Tryz.prog 92 #[.slice A0 l0.length c0, .int .i64 a1] w fun e w' => e = .returned (.tuple #[.agg #[.int .i64 r1, .string r2, .int .i32 r3, .bool r4, .int .u32 r5], .int .i64 r6]) ∧ Below w.heap.size w w' := by
 have hu46 := Tryz.underlying46; have HR0 := Aside0.mk hr0; have HC0 := Aside0.mk hc0; clear hr0 hc0; have HB := Z (Below.refl w.heap.size w); unfold spec_l04Number.f at h; have H := h; clear h; replace H := Yg H; obtain ⟨c3, H⟩ := H; have c3b0 := decide_eq_true c3; clear c3; replace H := Yg H; obtain ⟨c4, H⟩ := H; have c4b0 := decide_eq_true c4; clear c4; have HC5 := Aside0.mk H; clear H; go_enter Tryz.func92, Tryz.ntmps92
 go_upto_region 4 with (first | ((with_reducible refine gate_dst (N := 4) rfl ?_); refine box_event (by rfl) (N := 4) (by rfl) (cs := #[.int .i64 0, .string (⟨#[]⟩ : ByteArray), .int .i32 0, .bool false, .int .u32 0]) (t := 46) Z4 ?_; intro gb586 hg w6 hbox hb; have BK586 := Z (hbox); have GW586 := Z ((Z124 : w.heap.size ≤ gb586)); have GE586 := Z ((Z124 : w.heap.size ≤ gb586)); replace HB := Z (below_step Z90 hb); clear hb hbox hg; have p587 : 0 ≤ (a1 : Int) := of_decide_eq_true Z7; have q587 : a1 < (l0.length : Int) := of_decide_eq_true Z7; obtain ⟨ad587, e587, hx587_0⟩ := Kd.at_int HR0.out a1 p587 q587; cases e587; replace hx587_0 := Yh HB.out hx587_0; replace p587 := eq_true p587; replace q587 := eq_true q587) | ((with_reducible refine gate_dst (N := 8) rfl ?_); refine box_event (by rfl) (N := 8) (by rfl) (cs := #[.int .i64 0, .string (⟨#[]⟩ : ByteArray), .int .i32 0, .bool false, .int .u32 0]) (t := 46) Z4 ?_; intro gb588 hg w7 hbox hb; have BK588 := Z (hbox); have GW588 := Z ((Z124 : w.heap.size ≤ gb588)); have GE588 := Z ((Z124 : w.heap.size ≤ gb588)); replace HB := Z (below_step Z90 hb); have NB586_588 := Z ((by rw [hg]; exact Nat.ne_of_lt (blk_lt (g := gb586) (o := .cells #[.int .i64 0, .string (⟨#[]⟩ : ByteArray), .int .i32 0, .bool false, .int .u32 0] 46 (0, 0)) (Z15 BK586)) : gb586 ≠ gb588)); have NB588_586 := Z ((by rw [hg]; exact Nat.ne_of_gt (blk_lt (g := gb586) (o := .cells #[.int .i64 0, .string (⟨#[]⟩ : ByteArray), .int .i32 0, .bool false, .int .u32 0] 46 (0, 0)) (Z15 BK586)) : gb588 ≠ gb586)); replace BK586 := Z (Yk9 BK586 hb); clear hb hbox hg; have hnb8 := NB588_586.out; have hnc8 := NB586_588.out; have hcz9 := Yb5 BK588.out))
 (try simp only [Act.put, List.setIfInBounds_toArray, List.set_cons_zero, List.set_cons_succ])
 go_cut [24] (fun v24 wc => ∃ (kq : Nat) (x24_4 : Bool), v24 = .bool x24_4 ∧ Aside0 (spec_l04Number.j0 kq l0 a1 (rd l0 a1) (Int.tmod (rd l0 a1) 16) x24_4 7 (⟨#[]⟩ : ByteArray) 0 ((Go.bits .and .u32 (rd l0 a1) 16) != 0) 0 = some (r1, r2, r3, r4, r5, r6)) ∧ Aside0 (kq ≤ k) ∧ Aside0 (wc.heap[gb586]? = some (.cells #[.int .i64 0, .string (⟨#[]⟩ : ByteArray), .int .i32 0, .bool false, .int .u32 0] 46 (0, 0))) ∧ Aside0 (wc.heap[gb588]? = some (.cells #[.int .i64 7, .string (⟨#[]⟩ : ByteArray), .int .i32 0, .bool ((Go.bits .and .u32 (rd l0 a1) 16) != 0), .int .u32 0] 46 (0, 0))) ∧ Aside0 (Below w.heap.size w wc))
 case first =>
  have H := HC5.out; clear HC5; replace H := Yi H; rcases H with ⟨c10, H⟩ | ⟨c10, H⟩
  ·obtain ⟨c10b0, c10b1⟩ := Ye c10; clear c10
   (first | rw [c10b0] | (simp only [i64_w, i32_w]; rw [c10b0]) | skip)
   have H' := Aside0.mk H; clear H
   go_wp2
   go_meet
   case rel => exact ⟨_, (true), Z2, H', ⟨Z14⟩, ⟨(Z59 BK586)⟩, ⟨(Z60 BK588)⟩, ⟨Z90⟩⟩
  obtain ⟨c10b0, c10b1⟩ := Yn c10
  (first | rw [c10b0] | (simp only [i64_w, i32_w]; rw [c10b0]) | skip)
  have H' := Aside0.mk H; clear H
  go_wp2
  go_meet
  case rel => exact ⟨_, (((Int.tmod (rd l0 a1) 16) == 5)), Z2, H', ⟨Z14⟩, ⟨(Z59 BK586)⟩, ⟨(Z60 BK588)⟩, ⟨Z90⟩⟩
 case rest =>
  clear HC5; (try clear c1); (try clear p2); (try clear c3); (try clear c3b0); (try clear c4); (try clear c4b0); (try clear p5); (try clear q5); (try clear hx5); (try clear c8); (try clear c9); (try clear c10); (try clear c10b0); (try clear c10b1); (try clear hcz9); (try clear hx587_0); (try clear p587); (try clear q587); obtain ⟨kq, x24_4, rfl, HA, HJ4, BK586, BK588, HB⟩ := hcut
  cases kq with
  | zero => exact absurd HA.out (by simp [spec_l04Number.j0])
  | succ kj4 =>
   have H := HA.out; clear HA; simp only [spec_l04Number.j0] at H; have HC11 := Aside0.mk H; clear H
   go_upto_if 24 with (fail)
   go_cut [] (fun wc => ∃ (kq : Nat) (x589000_10 : Int), Aside0 (spec_l04Number.j1 kq l0 a1 (rd l0 a1) (Int.tmod (rd l0 a1) 16) x589000_10 (⟨#[]⟩ : ByteArray) 0 ((Go.bits .and .u32 (rd l0 a1) 16) != 0) 0 = some (r1, r2, r3, r4, r5, r6)) ∧ Aside0 (kq ≤ kj4) ∧ Aside0 (wc.heap[gb586]? = some (.cells #[.int .i64 0, .string (⟨#[]⟩ : ByteArray), .int .i32 0, .bool false, .int .u32 0] 46 (0, 0))) ∧ Aside0 (wc.heap[gb588]? = some (.cells #[.int .i64 x589000_10, .string (⟨#[]⟩ : ByteArray), .int .i32 0, .bool ((Go.bits .and .u32 (rd l0 a1) 16) != 0), .int .u32 0] 46 (0, 0))) ∧ Aside0 (Below w.heap.size w wc))
   case first =>
    have H := HC11.out; clear HC11; by_cases c12 : x24_4 = true
    ·subst c12; replace H := Yt H; have H' := Aside0.mk H; clear H; have hnb13 := NB588_586.out; have hnc13 := NB586_588.out; have hcz14 := Yb5 BK588.out
     go_wp2
     go_meet
     case rel => exact ⟨_, (8), H', ⟨Z61⟩, ⟨(Z62 BK586)⟩, ⟨by (with_reducible repeat (first | refine blk_drewN ?_ _ | refine blk_drew ?_ | refine blk_alloc ?_ _)); refine blk_put (cs := #[.int .i64 7, .string (⟨#[]⟩ : ByteArray), .int .i32 0, .bool ((Go.bits .and .u32 (rd l0 a1) 16) != 0), .int .u32 0]) ?_ 0 _ rfl; (with_reducible repeat (first | refine blk_drewN ?_ _ | refine blk_drew ?_ | refine blk_alloc ?_ _)); exact BK588.out⟩, ⟨Z90⟩⟩
    replace c12 := Bool.eq_false_iff.mpr c12; subst c12; replace H := Yf H; have H' := Aside0.mk H; clear H
    go_wp2
    go_meet
    case rel => exact ⟨_, (7), H', ⟨Z61⟩, ⟨(Z15 BK586)⟩, ⟨(Z15 BK588)⟩, ⟨Z90⟩⟩
   case rest =>
    clear HC11; (try clear c1); (try clear p2); (try clear c3); (try clear c3b0); (try clear c4); (try clear c4b0); (try clear p5); (try clear q5); (try clear hx5); (try clear c8); (try clear c9); (try clear c10); (try clear c10b0); (try clear c10b1); (try clear c12); (try clear c13); (try clear hcz14); (try clear hcz9); (try clear hx587_0); (try clear p2); (try clear p5); (try clear p587); (try clear q5); (try clear q587); obtain ⟨kq, x589000_10, HA, HJ10, BK586, BK588, HB⟩ := hcut
    cases kq with
    | zero => exact absurd HA.out (by simp [spec_l04Number.j1])
    | succ kj10 =>
     have H := HA.out; clear HA; simp only [spec_l04Number.j1] at H; have HC15 := Aside0.mk H; clear H
     go_upto_region 6 with (fail)
     go_cut [31] (fun v31 wc => ∃ (kq : Nat) (x31_14 : Bool), v31 = .bool x31_14 ∧ Aside0 (spec_l04Number.j2 kq l0 a1 (rd l0 a1) x31_14 x589000_10 (⟨#[]⟩ : ByteArray) 0 ((Go.bits .and .u32 (rd l0 a1) 16) != 0) 0 = some (r1, r2, r3, r4, r5, r6)) ∧ Aside0 (kq ≤ kj10) ∧ Aside0 (wc.heap[gb586]? = some (.cells #[.int .i64 0, .string (⟨#[]⟩ : ByteArray), .int .i32 0, .bool false, .int .u32 0] 46 (0, 0))) ∧ Aside0 (wc.heap[gb588]? = some (.cells #[.int .i64 x589000_10, .string (⟨#[]⟩ : ByteArray), .int .i32 0, .bool ((Go.bits .and .u32 (rd l0 a1) 16) != 0), .int .u32 0] 46 (0, 0))) ∧ Aside0 (Below w.heap.size w wc))
     case first =>
      have H := HC15.out; clear HC15; replace H := Yi H; rcases H with ⟨c16, H⟩ | ⟨c16, H⟩
      ·obtain ⟨c16b0, c16b1⟩ := Ye c16; clear c16
       (first | rw [c16b0] | (simp only [i64_w, i32_w]; rw [c16b0]) | skip)
       have H' := Aside0.mk H; clear H
       go_wp2
       go_meet
       case rel => exact ⟨_, (true), Z2, H', ⟨Z63⟩, ⟨(Z15 BK586)⟩, ⟨(Z15 BK588)⟩, ⟨Z90⟩⟩
      obtain ⟨c16b0, c16b1⟩ := Yn c16
      (first | rw [c16b0] | (simp only [i64_w, i32_w]; rw [c16b0]) | skip)
      have H' := Aside0.mk H; clear H
      go_wp2
      go_meet
      case rel => exact ⟨_, (((Int.tmod (rd l0 a1) 16) == 6)), Z2, H', ⟨Z63⟩, ⟨(Z15 BK586)⟩, ⟨(Z15 BK588)⟩, ⟨Z90⟩⟩
     case rest =>
      clear HC15; (try clear c1); (try clear p2); (try clear c3); (try clear c3b0); (try clear c4); (try clear c4b0); (try clear p5); (try clear q5); (try clear hx5); (try clear c8); (try clear c9); (try clear c10); (try clear c10b0); (try clear c10b1); (try clear c12); (try clear c13); (try clear c16); (try clear c16b0); (try clear c16b1); (try clear hcz14); (try clear hcz9); (try clear hx587_0); (try clear p2); (try clear p5); (try clear p587); (try clear q5); (try clear q587); obtain ⟨kq, x31_14, rfl, HA, HJ14, BK586, BK588, HB⟩ := hcut
      cases kq with
      | zero => exact absurd HA.out (by simp [spec_l04Number.j2])
      | succ kj14 =>
       have H := HA.out; clear HA; simp only [spec_l04Number.j2] at H; by_cases c17 : x31_14 = true
       ·subst c17; replace H := Yt H; simp only [Option.some.injEq, Prod.mk.injEq] at H; obtain ⟨rfl, rfl, rfl, rfl, rfl, rfl⟩ := H; have hnb18 := NB588_586.out; have hnc18 := NB586_588.out; have hcz19 := Yb5 BK588.out; have hcz20 := Yb5 BK586.out
        go_wp2
        refine bodyPost_ret (results_ct rfl _ _ gb586 46 #[.int .i64 x589000_10, .string (⟨#[]⟩ : ByteArray), .int .i32 ((wrap32 ((rd l0 a1))) / 32), .bool ((Go.bits .and .u32 (rd l0 a1) 16) != 0), .int .u32 0] (0, 0) _ rfl (by (with_reducible repeat (first | refine blk_drewN ?_ _ | refine blk_drew ?_ | refine blk_alloc ?_ _)); refine blk_put (cs := #[.int .i64 x589000_10, .string (⟨#[]⟩ : ByteArray), .int .i32 ((wrap32 ((rd l0 a1))) / 32), .bool ((Go.bits .and .u32 (rd l0 a1) 16) != 0), .int .u32 0]) ?_ 4 _ rfl; (with_reducible repeat (first | refine blk_drewN ?_ _ | refine blk_drew ?_ | refine blk_alloc ?_ _)); refine blk_put (cs := #[.int .i64 x589000_10, .string (⟨#[]⟩ : ByteArray), .int .i32 ((wrap32 ((rd l0 a1))) / 32), .bool false, .int .u32 0]) ?_ 3 _ rfl; (with_reducible repeat (first | refine blk_drewN ?_ _ | refine blk_drew ?_ | refine blk_alloc ?_ _)); refine blk_put (cs := #[.int .i64 x589000_10, .string (⟨#[]⟩ : ByteArray), .int .i32 0, .bool false, .int .u32 0]) ?_ 2 _ rfl; (with_reducible repeat (first | refine blk_drewN ?_ _ | refine blk_drew ?_ | refine blk_alloc ?_ _)); refine blk_put (cs := #[.int .i64 x589000_10, .string (⟨#[]⟩ : ByteArray), .int .i32 0, .bool false, .int .u32 0]) ?_ 1 _ rfl; (with_reducible repeat (first | refine blk_drewN ?_ _ | refine blk_drew ?_ | refine blk_alloc ?_ _)); refine blk_put (cs := #[.int .i64 0, .string (⟨#[]⟩ : ByteArray), .int .i32 0, .bool false, .int .u32 0]) ?_ 0 _ rfl; (with_reducible repeat (first | refine blk_drewN ?_ _ | refine blk_drew ?_ | refine blk_alloc ?_ _)); refine blk_far ?_ NB586_588.out _; (with_reducible repeat (first | refine blk_drewN ?_ _ | refine blk_drew ?_ | refine blk_alloc ?_ _)); exact BK586.out) Tryz.underlying46 rfl Z0) rfl ?_
        exact ⟨Z91, Z90⟩
       replace c17 := Bool.eq_false_iff.mpr c17; subst c17; replace H := Yf H; replace H := Yi H; rcases H with ⟨c21, H⟩ | ⟨c21, H⟩
       ·have c21b0 : decide ((l0.length : Int) ≤ (wrap64 (a1 + 1))) = true := decide_eq_true c21; clear c21; simp only [Option.some.injEq, Prod.mk.injEq] at H; obtain ⟨rfl, rfl, rfl, rfl, rfl, rfl⟩ := H; have hnb22 := NB586_588.out; have hnc22 := NB588_586.out; have hcz23 := Yb5 BK586.out
        go_wp2
        refine bodyPost_ret (results_ct rfl _ _ gb586 46 #[.int .i64 0, .string (⟨#[]⟩ : ByteArray), .int .i32 0, .bool false, .int .u32 0] (0, 0) _ rfl (Z24 BK586) Tryz.underlying46 rfl Z0) rfl ?_
        exact ⟨Z91, Z90⟩
       have c21b0 : decide ((l0.length : Int) ≤ (wrap64 (a1 + 1))) = false := decide_eq_false c21; clear c21; replace H := Yi H; rcases H with ⟨c24, H⟩ | ⟨c24, H⟩
       ·obtain ⟨c24b0, c24b1⟩ := Ye c24; clear c24; obtain ⟨ji25, hji25⟩ : ∃ j_ : Int, (wrap64 (a1 + 1)) = j_ := ⟨_, rfl⟩; replace H : (if 0 ≤ (ji25) then (if (ji25) < (l0.length : Int) then ((spec_CellsOf.f kj14 x589000_10 (⟨#[]⟩ : ByteArray) (wrap32 (rd l0 (ji25))) ((Go.bits .and .u32 (rd l0 a1) 16) != 0) 0).bind fun t590 => (some (x589000_10, (⟨#[]⟩ : ByteArray), wrap32 (rd l0 (ji25)), ((Go.bits .and .u32 (rd l0 a1) 16) != 0), 0, wrap64 ((wrap64 ((t590.length : Int) / 2)) * 2)))) else (none)) else (none)) = some (r1, r2, r3, r4, r5, r6) := by first | (rw [hji25] at H; exact H) | (simp only [hji25] at H ⊢; exact H)
        (try rw [hji25] at c21b0)
        have hji25w : (IntKind.i64.wrap (a1 + 1)) = ji25 := (i64_w _).trans hji25; replace H := Yg H; obtain ⟨c26, H⟩ := H; have c26b0 := decide_eq_true c26; clear c26; replace H := Yg H; obtain ⟨c27, H⟩ := H; have c27b0 := decide_eq_true c27; clear c27; replace H := Yd H; obtain ⟨t590, A28, H⟩ := H; (try dsimp only at H); simp only [Option.some.injEq, Prod.mk.injEq] at H; obtain ⟨rfl, rfl, rfl, rfl, rfl, rfl⟩ := H; have p589 : 0 ≤ ((ji25) : Int) := of_decide_eq_true Z7; have q589 : (ji25) < (l0.length : Int) := of_decide_eq_true Z7; obtain ⟨ad589, e589, hx589_0⟩ := Kd.at_int HR0.out (ji25) p589 q589; obtain rfl : ad587 = ad589 := (by injection e589); replace hx589_0 := Yh HB.out hx589_0; replace p589 := eq_true p589; replace q589 := eq_true q589; have hnb29 := NB588_586.out; have hnc29 := NB586_588.out; have hcz30 := Yb5 BK588.out
        try go_wp2
        have n0_ : Aside0 ((wc.setCell ⟨gb588, 2, none⟩ (.int .i32 (wrap32 (rd l0 (ji25))))).heap[gb586]? = some (.cells #[.int .i64 0, .string (⟨#[]⟩ : ByteArray), .int .i32 0, .bool false, .int .u32 0] 46 (0, 0))) := ⟨(Z62 BK586)⟩; have n1_ : Aside0 ((wc.setCell ⟨gb588, 2, none⟩ (.int .i32 (wrap32 (rd l0 (ji25))))).heap[gb588]? = some (.cells #[.int .i64 x589000_10, .string (⟨#[]⟩ : ByteArray), .int .i32 (wrap32 (rd l0 (ji25))), .bool ((Go.bits .and .u32 (rd l0 a1) 16) != 0), .int .u32 0] 46 (0, 0))) := ⟨by (with_reducible repeat (first | refine blk_drewN ?_ _ | refine blk_drew ?_ | refine blk_alloc ?_ _)); refine blk_put (cs := #[.int .i64 x589000_10, .string (⟨#[]⟩ : ByteArray), .int .i32 0, .bool ((Go.bits .and .u32 (rd l0 a1) 16) != 0), .int .u32 0]) ?_ 2 _ rfl; (with_reducible repeat (first | refine blk_drewN ?_ _ | refine blk_drew ?_ | refine blk_alloc ?_ _)); exact BK588.out⟩; have n2_ : Aside0 (Below w.heap.size w (wc.setCell ⟨gb588, 2, none⟩ (.int .i32 (wrap32 (rd l0 (ji25)))))) := ⟨Z90⟩
        (try clear BK586)
        (try clear BK588)
        (try clear HB)
        (try rw [show ∀ (W_ : World) (n_ : Nat) (p_ : Addr) (v_ : Value), (W_.drewN n_).setCell p_ v_ = (W_.setCell p_ v_).drewN n_ from fun _ _ _ _ => rfl])
        generalize (wc.setCell ⟨gb588, 2, none⟩ (.int .i32 (wrap32 (rd l0 (ji25))))) = w31 at n0_ n1_ n2_ ⊢; have BK586 := n0_; have BK588 := n1_; have HB := n2_; clear n0_ n1_ n2_; have n0_ := Z (blk_drew BK586.out); have n1_ := Z (blk_drew BK588.out); have n2_ := Z (below_drew1 HB.out); clear BK586; clear BK588; clear HB; have BK586 := n0_; have BK588 := n1_; have HB := n2_; clear n0_ n1_ n2_; refine start_ (n := 8) (S := fun w' => w'.cell? ⟨gb588, 0, none⟩ = some (.int .i64 x589000_10) ∧ w'.cell? ⟨gb588, 1, none⟩ = some (.string (⟨#[]⟩ : ByteArray)) ∧ w'.cell? ⟨gb588, 2, none⟩ = some (.int .i32 (wrap32 (rd l0 (ji25)))) ∧ w'.cell? ⟨gb588, 3, none⟩ = some (.bool ((Go.bits .and .u32 (rd l0 a1) 16) != 0)) ∧ w'.cell? ⟨gb588, 4, none⟩ = some (.int .u32 0)) (ds := []) #[false, false, false, false, false, false, false, false] Z0 rfl rfl ⟨(blk_cell BK588.out 0).trans rfl, (blk_cell BK588.out 1).trans rfl, (blk_cell BK588.out 2).trans rfl, (blk_cell BK588.out 3).trans rfl, (blk_cell BK588.out 4).trans rfl⟩ (fun hHeld => ?_); refine with_tabW spec_l04Number.tab12 spec_l04Number.bits12 (fun HT_ HW_ => ?_)
        generalize w31.drew = w32 at BK586 BK588 HB hHeld ⊢; refine take_ (i := 0) (N := some 55) (v := ?_) (a' := ?_) #[true, false, false, false, false, false, false, false] rfl rfl (take_ofW HT_.out HW_.out Z0) (fun _ _ _ h => h) (Or.inl ⟨by rfl, ?_⟩) hHeld ?_ ?_
        rotate_left
        ·rintro w' ⟨s0, s1, s2, s3, s4⟩
         go_simp
         with_reducible rfl
        rotate_left
        ·simp only [Act.put, List.setIfInBounds_toArray, List.set_cons_zero, List.set_cons_succ, i64_w, i32_w]
         rfl
        refine take_ (i := 1) (N := some 56) (v := ?_) (a' := ?_) #[true, true, false, false, false, false, false, false] rfl rfl (take_ofW HT_.out HW_.out Z0) (fun _ _ _ h => h) (Or.inl ⟨by rfl, ?_⟩) hHeld ?_ ?_
        rotate_left
        ·rintro w' ⟨s0, s1, s2, s3, s4⟩
         go_simp
         with_reducible rfl
        rotate_left
        ·simp only [Act.put, List.setIfInBounds_toArray, List.set_cons_zero, List.set_cons_succ, i64_w, i32_w]
         rfl
        refine one_ (i := 2) (N := some 57) #[true, true, true, false, false, false, false, false] rfl rfl (one_of HT_.out Z0) (by decide) (fun K hK => ?_)
        refine goes_ Tryz.func37 Z0 rfl #[.agg #[.int .i64 x589000_10, .string (⟨#[]⟩ : ByteArray), .int .i32 (wrap32 (rd l0 (ji25))), .bool ((Go.bits .and .u32 (rd l0 a1) 16) != 0), .int .u32 0]] (by rfl) rfl rfl (by (try simp only [List.map_toArray, List.map_cons, List.map_nil]); first | done | (simp only [hji25]; rfl) | rfl | (simp only [List.length_drop, List.length_take]; rfl)) ?_
        with_reducible refine (spec_CellsOf.calls kj14 x589000_10 (⟨#[]⟩ : ByteArray) (wrap32 (rd l0 (ji25))) ((Go.bits .and .u32 (rd l0 a1) 16) != 0) 0 t590 _ A28.out).mono ?_
        rintro e w33 ⟨v591, rfl, ho0, hb⟩; refine ⟨_, rfl, ?_⟩
        have n0_ := Z (Kd.R_lower ho0 (below_size Z90)); have n1_ := Z (Yk9 BK586 hb); have n2_ := Z (Yk9 BK588 hb); have n3_ := Z (below_step Z90 hb); clear BK586; clear BK588; clear HB; have HO592 := n0_; have BK586 := n1_; have BK588 := n2_; have HB := n3_; clear n0_ n1_ n2_ n3_
        (try clear hb)
        (try clear hb2)
        (try clear hk)
        (try clear hi)
        (try clear ho0)
        obtain ⟨Ao34, co34, eo34⟩ := Kd.R_slice HO592.out
        (first | subst eo34 | (injection eo34 with f1_ f2_ f3_; have f4_ := f1_.symm; have f5_ := f3_.symm; clear f1_ f2_ f3_; subst f4_; subst f5_))
        refine hK.out _ _ ⟨(blk_cell BK588.out 0).trans rfl, (blk_cell BK588.out 1).trans rfl, (blk_cell BK588.out 2).trans rfl, (blk_cell BK588.out 3).trans rfl, (blk_cell BK588.out 4).trans rfl⟩ (fun hHeld => ?_)
        clear hK K; refine norm_ (a' := ?_) ?_ ?_
        rotate_left
        ·show Act.put _ (some 57) _ = _
         simp only [Act.put, List.setIfInBounds_toArray, List.set_cons_zero, List.set_cons_succ, i64_w, i32_w]
         rfl
        refine pure_ (i := 3) (N := some 58) (v := ?_) (a' := ?_) #[true, true, true, true, false, false, false, false] rfl rfl (any_of HT_.out Z0) (fun _ _ _ h => h) (Or.inl ⟨by rfl, ?_⟩) ?_ ?_
        rotate_left
        ·intro w'
         go_simp
         with_reducible rfl
        rotate_left
        ·simp only [Act.put, List.setIfInBounds_toArray, List.set_cons_zero, List.set_cons_succ, i64_w, i32_w]
         rfl
        refine pure_ (i := 4) (N := some 59) (v := ?_) (a' := ?_) #[true, true, true, true, true, false, false, false] rfl rfl (any_of HT_.out Z0) (fun _ _ _ h => h) (Or.inl ⟨by rfl, ?_⟩) ?_ ?_
        rotate_left
        ·intro w'
         go_simp
         with_reducible rfl
        rotate_left
        ·simp only [Act.put, List.setIfInBounds_toArray, List.set_cons_zero, List.set_cons_succ, i64_w, i32_w]
         rfl
        refine pure_ (i := 5) (N := some 60) (v := ?_) (a' := ?_) #[true, true, true, true, true, true, false, false] rfl rfl (any_of HT_.out Z0) (fun _ _ _ h => h) (Or.inl ⟨by rfl, ?_⟩) ?_ ?_
        rotate_left
        ·intro w'
         go_simp
         with_reducible rfl
        rotate_left
        ·simp only [Act.put, List.setIfInBounds_toArray, List.set_cons_zero, List.set_cons_succ, i64_w, i32_w]
         rfl
        refine one_ (i := 6) (N := none) #[true, true, true, true, true, true, true, false] rfl rfl (one_of HT_.out Z0) (by decide) (fun K hK => ?_)
        have hs35 : w33.cell? ⟨gb586, 0, none⟩ = some (.int .i64 0) := (blk_cell BK586.out 0).trans rfl; have hfs35 := blk_frozen BK586.out 0; have hns35_1 := NB588_586.out; have hms35_1 := NB586_588.out; have hs36 : w33.cell? ⟨gb586, 1, none⟩ = some (.string (⟨#[]⟩ : ByteArray)) := (blk_cell BK586.out 1).trans rfl; have hfs36 := blk_frozen BK586.out 1; have hns36_1 := NB588_586.out; have hms36_1 := NB586_588.out; have hs37 : w33.cell? ⟨gb586, 2, none⟩ = some (.int .i32 0) := (blk_cell BK586.out 2).trans rfl; have hfs37 := blk_frozen BK586.out 2; have hns37_1 := NB588_586.out; have hms37_1 := NB586_588.out; have hs38 : w33.cell? ⟨gb586, 3, none⟩ = some (.bool false) := (blk_cell BK586.out 3).trans rfl; have hfs38 := blk_frozen BK586.out 3; have hns38_1 := NB588_586.out; have hms38_1 := NB586_588.out; have hs39 : w33.cell? ⟨gb586, 4, none⟩ = some (.int .u32 0) := (blk_cell BK586.out 4).trans rfl; have hfs39 := blk_frozen BK586.out 4; have hns39_1 := NB588_586.out; have hms39_1 := NB586_588.out; refine skip_ (w1 := ?_) (by rfl) rfl ?_ ?_
        rotate_left
        ·go_simp
         rfl
        refine hK.out _ _ ⟨((cell_far (p := ⟨gb586, _, none⟩) NB588_586.out _).trans (((cell_far (p := ⟨gb586, _, none⟩) NB588_586.out _).trans (((cell_far (p := ⟨gb586, _, none⟩) NB588_586.out _).trans (((cell_far (p := ⟨gb586, _, none⟩) NB588_586.out _).trans (((cell_far (p := ⟨gb586, _, none⟩) NB588_586.out _).trans (hHeld.1)))))))))), ((cell_far (p := ⟨gb586, _, none⟩) NB588_586.out _).trans (((cell_far (p := ⟨gb586, _, none⟩) NB588_586.out _).trans (((cell_far (p := ⟨gb586, _, none⟩) NB588_586.out _).trans (((cell_far (p := ⟨gb586, _, none⟩) NB588_586.out _).trans (((cell_far (p := ⟨gb586, _, none⟩) NB588_586.out _).trans (hHeld.2.1)))))))))), ((cell_far (p := ⟨gb586, _, none⟩) NB588_586.out _).trans (((cell_far (p := ⟨gb586, _, none⟩) NB588_586.out _).trans (((cell_far (p := ⟨gb586, _, none⟩) NB588_586.out _).trans (((cell_far (p := ⟨gb586, _, none⟩) NB588_586.out _).trans (((cell_far (p := ⟨gb586, _, none⟩) NB588_586.out _).trans (hHeld.2.2.1)))))))))), ((cell_far (p := ⟨gb586, _, none⟩) NB588_586.out _).trans (((cell_far (p := ⟨gb586, _, none⟩) NB588_586.out _).trans (((cell_far (p := ⟨gb586, _, none⟩) NB588_586.out _).trans (((cell_far (p := ⟨gb586, _, none⟩) NB588_586.out _).trans (((cell_far (p := ⟨gb586, _, none⟩) NB588_586.out _).trans (hHeld.2.2.2.1)))))))))), ((cell_far (p := ⟨gb586, _, none⟩) NB588_586.out _).trans (((cell_far (p := ⟨gb586, _, none⟩) NB588_586.out _).trans (((cell_far (p := ⟨gb586, _, none⟩) NB588_586.out _).trans (((cell_far (p := ⟨gb586, _, none⟩) NB588_586.out _).trans (((cell_far (p := ⟨gb586, _, none⟩) NB588_586.out _).trans (hHeld.2.2.2.2))))))))))⟩ (fun hHeld => ?_)
        clear hK K; refine pure_ (i := 7) (N := some 5) (v := ?_) (a' := ?_) #[true, true, true, true, true, true, true, true] rfl rfl (any_of HT_.out Z0) (fun _ _ _ h => h) (Or.inl ⟨by rfl, ?_⟩) ?_ ?_
        rotate_left
        ·intro w'
         go_simp
         with_reducible rfl
        rotate_left
        ·simp only [Act.put, List.setIfInBounds_toArray, List.set_cons_zero, List.set_cons_succ, i64_w, i32_w]
         rfl
        refine done_ (done_of HT_.out Z0) ?_
        try go_wp2
        refine bodyPost_ret (results_ct rfl _ _ gb586 46 #[.int .i64 x589000_10, .string (⟨#[]⟩ : ByteArray), .int .i32 (wrap32 (rd l0 (ji25))), .bool ((Go.bits .and .u32 (rd l0 a1) 16) != 0), .int .u32 0] (0, 0) _ rfl (by (with_reducible repeat (first | refine blk_drewN ?_ _ | refine blk_drew ?_ | refine blk_alloc ?_ _)); refine blk_put (cs := #[.int .i64 x589000_10, .string (⟨#[]⟩ : ByteArray), .int .i32 (wrap32 (rd l0 (ji25))), .bool ((Go.bits .and .u32 (rd l0 a1) 16) != 0), .int .u32 0]) ?_ 4 _ rfl; (with_reducible repeat (first | refine blk_drewN ?_ _ | refine blk_drew ?_ | refine blk_alloc ?_ _)); refine blk_put (cs := #[.int .i64 x589000_10, .string (⟨#[]⟩ : ByteArray), .int .i32 (wrap32 (rd l0 (ji25))), .bool false, .int .u32 0]) ?_ 3 _ rfl; (with_reducible repeat (first | refine blk_drewN ?_ _ | refine blk_drew ?_ | refine blk_alloc ?_ _)); refine blk_put (cs := #[.int .i64 x589000_10, .string (⟨#[]⟩ : ByteArray), .int .i32 0, .bool false, .int .u32 0]) ?_ 2 _ rfl; (with_reducible repeat (first | refine blk_drewN ?_ _ | refine blk_drew ?_ | refine blk_alloc ?_ _)); refine blk_put (cs := #[.int .i64 x589000_10, .string (⟨#[]⟩ : ByteArray), .int .i32 0, .bool false, .int .u32 0]) ?_ 1 _ rfl; (with_reducible repeat (first | refine blk_drewN ?_ _ | refine blk_drew ?_ | refine blk_alloc ?_ _)); refine blk_put (cs := #[.int .i64 0, .string (⟨#[]⟩ : ByteArray), .int .i32 0, .bool false, .int .u32 0]) ?_ 0 _ rfl; (with_reducible repeat (first | refine blk_drewN ?_ _ | refine blk_drew ?_ | refine blk_alloc ?_ _)); exact BK586.out) Tryz.underlying46 rfl Z0) rfl ?_
        exact ⟨by first | rfl | (rw [← show ∀ l_ : List UInt8, (!l_.isEmpty) = (l_ != []) from fun l_ => Z11]; rfl) | (simp [errW_none, errW_some] <;> rfl) | (simp only [← hji25]; first | rfl | (simp [errW_none, errW_some] <;> rfl)) | (simp [*, errW_none, errW_some] <;> rfl), Z90⟩
       obtain ⟨c24b0, c24b1⟩ := Yn c24; simp only [Option.some.injEq, Prod.mk.injEq] at H; obtain ⟨rfl, rfl, rfl, rfl, rfl, rfl⟩ := H; have hnb40 := NB586_588.out; have hnc40 := NB588_586.out; have hcz41 := Yb5 BK586.out
       go_wp2
       refine bodyPost_ret (results_ct rfl _ _ gb586 46 #[.int .i64 0, .string (⟨#[]⟩ : ByteArray), .int .i32 0, .bool false, .int .u32 0] (0, 0) _ rfl (Z24 BK586) Tryz.underlying46 rfl Z0) rfl ?_
       exact ⟨Z91, Z90⟩

def spec_FieldOk.f (k : Nat) (a0 : Int) : Option (Bool) := (spec_UnpackOne.f k a0).bind fun t593 => ((spec_Pack.f k t593).bind fun t594 => (if (t594.length : Int) = 1 then (if 0 < (t594.length : Int) then (some ((rd t594 0) == a0)) else (none)) else (some false)))
theorem spec_FieldOk.calls (k : Nat) (a0 : Int) (r : Bool) (w : World) (h : spec_FieldOk.f k a0 = some r) :
  Calls Tryz.prog 93 #[.int .u32 a0] w fun e w' => e = .returned (.bool r) ∧ Below w.heap.size w w' := by
 have HB := Z (Below.refl w.heap.size w); unfold spec_FieldOk.f at h; have H := h; clear h; replace H := Yd H; obtain ⟨t593, A2, H⟩ := H; (try dsimp only at H); replace H := Yd H; obtain ⟨t594, A3, H⟩ := H; (try dsimp only at H); replace H := Yi H; rcases H with ⟨c4, H⟩ | ⟨c4, H⟩
 ·obtain ⟨c4b0, c4b1⟩ := Ye c4; clear c4; replace H := Yg H; obtain ⟨c5, H⟩ := H; have c5b0 := decide_eq_true c5; have c5b1 : decide (0 < t594.length) = true := decide_eq_true (by omega); clear c5; obtain rfl := Option.some.inj H; go_enter Tryz.func93, Tryz.ntmps93
  go_wp2_with (first | ((with_reducible refine gate_callee (f := 94) rfl ?_); refine goesL_ (some 5) rfl rfl Tryz.func94 Z0 rfl #[.int .u32 a0] rfl Z8 ?_; (with_reducible refine (spec_UnpackOne.calls k a0 t593 _ A2.out).mono ?_); rintro e w6 ⟨rfl, hb⟩; refine ⟨_, rfl, ?_⟩; replace HB := Z (below_step Z90 hb); (try clear hb); (try clear hb2); (try clear hk); (try clear hi)) | ((with_reducible refine gate_callee (f := 97) rfl ?_); refine goesL_ (some 6) rfl rfl Tryz.func97 Z0 rfl #[.string t593] rfl Z8 ?_; (with_reducible refine (spec_Pack.calls k t593 t594 _ A3.out).mono ?_); rintro e w7 ⟨v595, rfl, ho0, hb⟩; refine ⟨_, rfl, ?_⟩; have HO596 := Z (Kd.R_lower ho0 (below_size Z90)); replace HB := Z (below_step Z90 hb); (try clear hb); (try clear hb2); (try clear hk); (try clear hi); (try clear ho0); obtain ⟨Ao8, co8, eo8⟩ := Kd.R_slice HO596.out; subst eo8; have p597 : 0 ≤ (0 : Int) := (by omega); have q597 : 0 < (t594.length : Int) := of_decide_eq_true Z7; obtain ⟨ad597, e597, hx597_0⟩ := Kd.at_int (Kd.R_reads' HO596.out).2.2 0 p597 q597; cases e597; have qi597 : (0 < t594.length) = True := eq_true (by omega); (try rw [show ((0 : Int)).toNat = 0 from rfl] at hx597_0); (try rw [Addr.add_zero'] at hx597_0); replace p597 := eq_true p597; replace q597 := eq_true q597))
  go_ret
  exact ⟨Z91, Z90⟩
 obtain ⟨c4b0, c4b1⟩ := Yn c4; obtain rfl := Option.some.inj H; go_enter Tryz.func93, Tryz.ntmps93
 go_wp2_with (first | ((with_reducible refine gate_callee (f := 94) rfl ?_); refine goesL_ (some 5) rfl rfl Tryz.func94 Z0 rfl #[.int .u32 a0] rfl Z8 ?_; (with_reducible refine (spec_UnpackOne.calls k a0 t593 _ A2.out).mono ?_); rintro e w9 ⟨rfl, hb⟩; refine ⟨_, rfl, ?_⟩; replace HB := Z (below_step Z90 hb); (try clear hb); (try clear hb2); (try clear hk); (try clear hi)) | ((with_reducible refine gate_callee (f := 97) rfl ?_); refine goesL_ (some 6) rfl rfl Tryz.func97 Z0 rfl #[.string t593] rfl Z8 ?_; (with_reducible refine (spec_Pack.calls k t593 t594 _ A3.out).mono ?_); rintro e w10 ⟨v595, rfl, ho0, hb⟩; refine ⟨_, rfl, ?_⟩; have HO596 := Z (Kd.R_lower ho0 (below_size Z90)); replace HB := Z (below_step Z90 hb); (try clear hb); (try clear hb2); (try clear hk); (try clear hi); (try clear ho0); obtain ⟨Ao11, co11, eo11⟩ := Kd.R_slice HO596.out; subst eo11))
 go_ret
 exact ⟨Z91, Z90⟩

mutual
def spec_l04Item.j0 : Nat → List Int → Int → Int → Int → Bool → Int → ByteArray → Int → Bool → Int → Option (Int × ByteArray × Int × Bool × Int × Int)
 | 0, _, _, _, _, _, _, _, _, _, _ => none
 | k + 1, x0, x1, x7, x8, x27, x600000, x600001, x600002, x600003, x600004 => if x27 = true then ((spec_l04Number.f k x0 x1).bind fun bt610 => (if bt610.2.2.2.2.2 = 0 then (if 0 ≤ x1 then (if x1 < (x0.length : Int) then (some (0, (⟨#[]⟩ : ByteArray), 0, false, rd x0 x1, 1)) else (none)) else (none)) else (some (bt610.1, bt610.2.1, bt610.2.2.1, bt610.2.2.2.1, bt610.2.2.2.2.1, bt610.2.2.2.2.2)))) else (if x8 = 12 then (if (wrap64 (x1 + 1)) < (x0.length : Int) then (if 0 ≤ x1 then (if x1 < (x0.length : Int) then ((spec_FieldOk.f k ((Int.tdiv (rd x0 x1) 16) % 4294967296)).bind fun t618 => (spec_l04Item.j1 k x0 x1 x7 t618 x600000 x600001 x600002 x600003 x600004)) else (none)) else (none)) else (spec_l04Item.j1 k x0 x1 x7 false x600000 x600001 x600002 x600003 x600004)) else (spec_l04Item.j1 k x0 x1 x7 false x600000 x600001 x600002 x600003 x600004))
def spec_l04Item.j1 : Nat → List Int → Int → Int → Bool → Int → ByteArray → Int → Bool → Int → Option (Int × ByteArray × Int × Bool × Int × Int)
 | 0, _, _, _, _, _, _, _, _, _ => none
 | k + 1, x0, x1, x7, x48, x600000, x600001, x600002, x600003, x600004 => if x48 = true then (if 0 ≤ x1 then (if x1 < (x0.length : Int) then ((spec_UnpackOne.f k ((Int.tdiv (rd x0 x1) 16) % 4294967296)).bind fun t620 => (if 0 ≤ (wrap64 (x1 + 1)) then (if (wrap64 (x1 + 1)) < (x0.length : Int) then (if 2 = 0 then (some (0, (⟨#[]⟩ : ByteArray), 0, false, rd x0 x1, 1)) else (some (9, t620, wrap32 (rd x0 (wrap64 (x1 + 1))), false, 0, 2))) else (none)) else (none))) else (none)) else (none)) else (if x7 = 0 then (if 0 ≤ x1 then (if x1 < (x0.length : Int) then (some (0, (⟨#[]⟩ : ByteArray), 0, false, rd x0 x1, 1)) else (none)) else (none)) else (some (x600000, x600001, x600002, x600003, x600004, x7)))
end
def spec_l04Item.f (k : Nat) (l0 : List Int) (a1 : Int) : Option (Int × ByteArray × Int × Bool × Int × Int) := if 0 ≤ a1 then (if a1 < (l0.length : Int) then ((spec_l04Kind.f k (Int.tmod (rd l0 a1) 16)).bind fun t601 => (if t601 ≥ 0 then ((spec_l04Kind.f k (Int.tmod (rd l0 a1) 16)).bind fun t602 => ((spec_l04Name.f k l0 a1 t602).bind fun bt603 => (if bt603.2.2.2.2.2 = 0 then (some (0, (⟨#[]⟩ : ByteArray), 0, false, rd l0 a1, 1)) else (some (bt603.1, bt603.2.1, bt603.2.2.1, bt603.2.2.2.1, bt603.2.2.2.2.1, bt603.2.2.2.2.2))))) else (if (Int.tmod (rd l0 a1) 16) = 8 then (spec_l04Item.j0 k l0 a1 0 (Int.tmod (rd l0 a1) 16) true 0 (⟨#[]⟩ : ByteArray) 0 false 0) else (if (Int.tmod (rd l0 a1) 16) = 6 then (spec_l04Item.j0 k l0 a1 0 (Int.tmod (rd l0 a1) 16) true 0 (⟨#[]⟩ : ByteArray) 0 false 0) else (if (Int.tmod (rd l0 a1) 16) = 2 then (spec_l04Item.j0 k l0 a1 0 (Int.tmod (rd l0 a1) 16) true 0 (⟨#[]⟩ : ByteArray) 0 false 0) else (spec_l04Item.j0 k l0 a1 0 (Int.tmod (rd l0 a1) 16) ((Int.tmod (rd l0 a1) 16) == 5) 0 (⟨#[]⟩ : ByteArray) 0 false 0)))))) else (none)) else (none)
def spec_l04Item.T8 : Bool × List (List Nat × List Nat) := (true, [([], []), ([], []), ([0, 1], [0, 1]), ([2], [2]), ([3], [3]), ([4], [4]), ([], []), ([], []), ([7], [7]), ([6, 8], [6, 8]), ([9], [9]), ([10], [10]), ([5, 11], [5, 11]), ([12, 5, 0, 1, 2, 3, 4, 5, 6, 7, 8, 9, 10, 11, 12], [12]), ([13, 0, 1, 2, 3, 4, 5, 6, 7, 8, 9, 10, 11, 12, 13], [])])
def spec_l04Item.B8 : List Nat := [0, 0, 3, 7, 15, 31, 0, 0, 128, 448, 960, 1984, 4095, 8191, 16383]
theorem spec_l04Item.tab8 : rtab .any (opsOf Tryz.f56 8) = spec_l04Item.T8 := Z0
theorem spec_l04Item.bits8 : waitsOk spec_l04Item.T8.2 spec_l04Item.B8 = true := Z0
theorem spec_l04Item.calls (k : Nat) (A0 : Option Addr) (c0 : Nat) (l0 : List Int) (a1 : Int) (r1 : Int) (r2 : ByteArray) (r3 : Int) (r4 : Bool) (r5 : Int) (r6 : Int) (w : World) (hr0 : Kd.C (Kd.int .u32) w A0 l0.length l0) (hc0 : l0.length ≤ c0) (h : spec_l04Item.f k l0 a1 = some (r1, r2, r3, r4, r5, r6)) :
  Calls Tryz.prog 56 #[.slice A0 l0.length c0, .int .i64 a1] w fun e w' => e = .returned (.tuple #[.agg #[.int .i64 r1, .string r2, .int .i32 r3, .bool r4, .int .u32 r5], .int .i64 r6]) ∧ Below w.heap.size w w' := by
 have hu46 := Tryz.underlying46; have HR0 := Aside0.mk hr0; have HC0 := Aside0.mk hc0; clear hr0 hc0; have HB := Z (Below.refl w.heap.size w); unfold spec_l04Item.f at h; have H := h; clear h; replace H := Yg H; obtain ⟨c3, H⟩ := H; have c3b0 := decide_eq_true c3; clear c3; replace H := Yg H; obtain ⟨c4, H⟩ := H; have c4b0 := decide_eq_true c4; clear c4; replace H := Yd H; obtain ⟨t601, A5, H⟩ := H; (try dsimp only at H); replace H := Yi H; rcases H with ⟨c6, H⟩ | ⟨c6, H⟩
 ·have c6b0 : decide (0 ≤ t601) = true := decide_eq_true c6; clear c6; replace H := Yd H; obtain ⟨t602, A7, H⟩ := H; (try dsimp only at H); replace H := Yd H; obtain ⟨⟨t603, t604, t605, t606, t607, t608⟩, A8, H⟩ := H; (try dsimp only at H); replace H := Yi H; rcases H with ⟨c9, H⟩ | ⟨c9, H⟩
  ·obtain ⟨c9b0, c9b1⟩ := Ye c9; clear c9; simp only [Option.some.injEq, Prod.mk.injEq] at H; obtain ⟨rfl, rfl, rfl, rfl, rfl, rfl⟩ := H; go_enter Tryz.func56, Tryz.ntmps56
   go_wp2_with (first | ((with_reducible refine gate_dst (N := 4) rfl ?_); (try (refine gate_guard (by rfl) ?_; dsimp only)); refine box_event (by rfl) (N := 4) (by rfl) (cs := #[.int .i64 0, .string (⟨#[]⟩ : ByteArray), .int .i32 0, .bool false, .int .u32 0]) (t := 46) Z4 ?_; intro gb598 hg w10 hbox hb; have BK598 := Z (hbox); have GW598 := Z ((Z124 : w.heap.size ≤ gb598)); have GE598 := Z ((Z124 : w.heap.size ≤ gb598)); replace HB := Z (below_step Z90 hb); clear hb hbox hg) | ((with_reducible refine gate_dst (N := 6) rfl ?_); (try (refine gate_guard (by rfl) ?_; dsimp only)); refine box_event (by rfl) (N := 6) (by rfl) (cs := #[.int .i64 0, .string (⟨#[]⟩ : ByteArray), .int .i32 0, .bool false, .int .u32 0]) (t := 46) Z4 ?_; intro gb599 hg w11 hbox hb; have BK599 := Z (hbox); have GW599 := Z ((Z124 : w.heap.size ≤ gb599)); have GE599 := Z ((Z124 : w.heap.size ≤ gb599)); replace HB := Z (below_step Z90 hb); have NB598_599 := Z ((Z112 : gb598 ≠ gb599)); have NB599_598 := Z ((Z113 : gb599 ≠ gb598)); replace BK598 := Z (Yk9 BK598 hb); clear hb hbox hg; have hnb12 := NB599_598.out; have hnc12 := NB598_599.out; have hcz13 := Yb5 BK599.out; have p600 : 0 ≤ (a1 : Int) := of_decide_eq_true Z7; have q600 : a1 < (l0.length : Int) := of_decide_eq_true Z7; obtain ⟨ad600, e600, hx600_0⟩ := Kd.at_int HR0.out a1 p600 q600; cases e600; have hn600_0 : ad600.block ≠ gb599 := Nat.ne_of_lt (Nat.lt_of_lt_of_le Z64 GW599.out); have hn600_1 : ad600.block ≠ gb599 := Nat.ne_of_lt (Nat.lt_of_lt_of_le Z64 GW599.out); have hn600_2 : ad600.block ≠ gb599 := Nat.ne_of_lt (Nat.lt_of_lt_of_le Z64 GW599.out); have hn600_3 : ad600.block ≠ gb599 := Nat.ne_of_lt (Nat.lt_of_lt_of_le Z64 GW599.out); have hn600_4 : ad600.block ≠ gb599 := Nat.ne_of_lt (Nat.lt_of_lt_of_le Z64 GW599.out); replace hx600_0 := Yh HB.out hx600_0; replace hx600_0 := (cell_far (p := ⟨gb599, 0, none⟩) Z65 (.int .i64 0)).trans hx600_0; replace hx600_0 := (cell_far (p := ⟨gb599, 1, none⟩) Z66 (.string (⟨#[]⟩ : ByteArray))).trans hx600_0; replace hx600_0 := (cell_far (p := ⟨gb599, 2, none⟩) Z67 (.int .i32 0)).trans hx600_0; replace hx600_0 := (cell_far (p := ⟨gb599, 3, none⟩) Z68 (.bool false)).trans hx600_0; replace hx600_0 := (cell_far (p := ⟨gb599, 4, none⟩) Z69 (.int .u32 0)).trans hx600_0; clear hn600_0; clear hn600_1; clear hn600_2; clear hn600_3; clear hn600_4; replace p600 := eq_true p600; replace q600 := eq_true q600) | ((with_reducible refine gate_callee (f := 90) rfl ?_); refine goesL_ (some 17) rfl rfl Tryz.func90 Z0 rfl #[.int .u32 (Int.tmod (rd l0 a1) 16)] rfl Z8 ?_; (with_reducible refine (spec_l04Kind.calls k (Int.tmod (rd l0 a1) 16) t601 _ A5.out).mono ?_); rintro e w' ⟨rfl, ⟨nd, rfl⟩⟩; refine ⟨_, rfl, ?_⟩) | ((with_reducible refine gate_callee (f := 90) rfl ?_); refine goesL_ (some 23) rfl rfl Tryz.func90 Z0 rfl #[.int .u32 (Int.tmod (rd l0 a1) 16)] rfl Z8 ?_; (with_reducible refine (spec_l04Kind.calls k (Int.tmod (rd l0 a1) 16) t602 _ A7.out).mono ?_); rintro e w' ⟨rfl, ⟨nd, rfl⟩⟩; refine ⟨_, rfl, ?_⟩) | ((with_reducible refine gate_callee (f := 91) rfl ?_); refine goesL_ (some 24) rfl rfl Tryz.func91 Z0 rfl #[.slice (some ad600) l0.length c0, .int .i64 a1, .int .i64 t602] rfl Z8 ?_; (with_reducible refine (spec_l04Name.calls k _ _ l0 a1 t602 t603 t604 t605 t606 t607 t608 _ ?side1 ?side2 A8.out).mono ?_); (case side1 => exact Kd.C_below HR0.out Z90); (case side2 => exact HC0.out); rintro e w14 ⟨rfl, hb⟩; refine ⟨_, rfl, ?_⟩; replace BK598 := Z (Yk9 BK598 hb); replace BK599 := Z (blk_below (g := gb599) (o := .cells #[.int .i64 0, .string (⟨#[]⟩ : ByteArray), .int .i32 0, .bool false, .int .u32 0] 46 (0, 0)) (Z24 BK599) hb); replace HB := Z (below_step Z90 hb); (try clear hb); (try clear hb2); (try clear hk); (try clear hi); have hcz15 := Yb5 BK599.out; have p609 : 0 ≤ (a1 : Int) := of_decide_eq_true Z7; have q609 : a1 < (l0.length : Int) := of_decide_eq_true Z7; obtain ⟨ad609, e609, hx609_0⟩ := Kd.at_int HR0.out a1 p609 q609; obtain rfl : ad600 = ad609 := (by injection e609); have hn609_0 : ad600.block ≠ gb599 := Nat.ne_of_lt (Nat.lt_of_lt_of_le Z70 GW599.out); have hn609_1 : ad600.block ≠ gb599 := Nat.ne_of_lt (Nat.lt_of_lt_of_le Z70 GW599.out); have hn609_2 : ad600.block ≠ gb599 := Nat.ne_of_lt (Nat.lt_of_lt_of_le Z70 GW599.out); have hn609_3 : ad600.block ≠ gb599 := Nat.ne_of_lt (Nat.lt_of_lt_of_le Z70 GW599.out); have hn609_4 : ad600.block ≠ gb599 := Nat.ne_of_lt (Nat.lt_of_lt_of_le Z70 GW599.out); replace hx609_0 := Yh HB.out hx609_0; replace hx609_0 := (cell_far (p := ⟨gb599, 0, none⟩) (by first | (rw [add_block]; exact hn609_0) | (show (Addr.add _ _).block ≠ _; rw [add_block]; exact hn609_0) | exact hn609_0) (.int .i64 t603)).trans hx609_0; replace hx609_0 := (cell_far (p := ⟨gb599, 1, none⟩) (by first | (rw [add_block]; exact hn609_1) | (show (Addr.add _ _).block ≠ _; rw [add_block]; exact hn609_1) | exact hn609_1) (.string t604)).trans hx609_0; replace hx609_0 := (cell_far (p := ⟨gb599, 2, none⟩) (by first | (rw [add_block]; exact hn609_2) | (show (Addr.add _ _).block ≠ _; rw [add_block]; exact hn609_2) | exact hn609_2) (.int .i32 t605)).trans hx609_0; replace hx609_0 := (cell_far (p := ⟨gb599, 3, none⟩) (by first | (rw [add_block]; exact hn609_3) | (show (Addr.add _ _).block ≠ _; rw [add_block]; exact hn609_3) | exact hn609_3) (.bool t606)).trans hx609_0; replace hx609_0 := (cell_far (p := ⟨gb599, 4, none⟩) (by first | (rw [add_block]; exact hn609_4) | (show (Addr.add _ _).block ≠ _; rw [add_block]; exact hn609_4) | exact hn609_4) (.int .u32 t607)).trans hx609_0; clear hn609_0; clear hn609_1; clear hn609_2; clear hn609_3; clear hn609_4; replace p609 := eq_true p609; replace q609 := eq_true q609; have hcz16 := Yb5 BK598.out))
   refine bodyPost_ret (results_ct rfl _ _ gb598 46 #[.int .i64 0, .string (⟨#[]⟩ : ByteArray), .int .i32 0, .bool false, .int .u32 (rd l0 a1)] (0, 0) _ rfl (Z71 BK598) Tryz.underlying46 rfl Z0) rfl ?_
   exact ⟨Z91, Z90⟩
  obtain ⟨c9b0, c9b1⟩ := Yn c9; simp only [Option.some.injEq, Prod.mk.injEq] at H; obtain ⟨rfl, rfl, rfl, rfl, rfl, rfl⟩ := H; go_enter Tryz.func56, Tryz.ntmps56
  go_wp2_with (first | ((with_reducible refine gate_dst (N := 4) rfl ?_); (try (refine gate_guard (by rfl) ?_; dsimp only)); refine box_event (by rfl) (N := 4) (by rfl) (cs := #[.int .i64 0, .string (⟨#[]⟩ : ByteArray), .int .i32 0, .bool false, .int .u32 0]) (t := 46) Z4 ?_; intro gb598 hg w17 hbox hb; have BK598 := Z (hbox); have GW598 := Z ((Z124 : w.heap.size ≤ gb598)); have GE598 := Z ((Z124 : w.heap.size ≤ gb598)); replace HB := Z (below_step Z90 hb); clear hb hbox hg) | ((with_reducible refine gate_dst (N := 6) rfl ?_); (try (refine gate_guard (by rfl) ?_; dsimp only)); refine box_event (by rfl) (N := 6) (by rfl) (cs := #[.int .i64 0, .string (⟨#[]⟩ : ByteArray), .int .i32 0, .bool false, .int .u32 0]) (t := 46) Z4 ?_; intro gb599 hg w18 hbox hb; have BK599 := Z (hbox); have GW599 := Z ((Z124 : w.heap.size ≤ gb599)); have GE599 := Z ((Z124 : w.heap.size ≤ gb599)); replace HB := Z (below_step Z90 hb); have NB598_599 := Z ((Z112 : gb598 ≠ gb599)); have NB599_598 := Z ((Z113 : gb599 ≠ gb598)); replace BK598 := Z (Yk9 BK598 hb); clear hb hbox hg; have hnb19 := NB599_598.out; have hnc19 := NB598_599.out; have hcz20 := Yb5 BK599.out; have p600 : 0 ≤ (a1 : Int) := of_decide_eq_true Z7; have q600 : a1 < (l0.length : Int) := of_decide_eq_true Z7; obtain ⟨ad600, e600, hx600_0⟩ := Kd.at_int HR0.out a1 p600 q600; cases e600; have hn600_0 : ad600.block ≠ gb599 := Nat.ne_of_lt (Nat.lt_of_lt_of_le Z64 GW599.out); have hn600_1 : ad600.block ≠ gb599 := Nat.ne_of_lt (Nat.lt_of_lt_of_le Z64 GW599.out); have hn600_2 : ad600.block ≠ gb599 := Nat.ne_of_lt (Nat.lt_of_lt_of_le Z64 GW599.out); have hn600_3 : ad600.block ≠ gb599 := Nat.ne_of_lt (Nat.lt_of_lt_of_le Z64 GW599.out); have hn600_4 : ad600.block ≠ gb599 := Nat.ne_of_lt (Nat.lt_of_lt_of_le Z64 GW599.out); replace hx600_0 := Yh HB.out hx600_0; replace hx600_0 := (cell_far (p := ⟨gb599, 0, none⟩) Z65 (.int .i64 0)).trans hx600_0; replace hx600_0 := (cell_far (p := ⟨gb599, 1, none⟩) Z66 (.string (⟨#[]⟩ : ByteArray))).trans hx600_0; replace hx600_0 := (cell_far (p := ⟨gb599, 2, none⟩) Z67 (.int .i32 0)).trans hx600_0; replace hx600_0 := (cell_far (p := ⟨gb599, 3, none⟩) Z68 (.bool false)).trans hx600_0; replace hx600_0 := (cell_far (p := ⟨gb599, 4, none⟩) Z69 (.int .u32 0)).trans hx600_0; clear hn600_0; clear hn600_1; clear hn600_2; clear hn600_3; clear hn600_4; replace p600 := eq_true p600; replace q600 := eq_true q600) | ((with_reducible refine gate_callee (f := 90) rfl ?_); refine goesL_ (some 17) rfl rfl Tryz.func90 Z0 rfl #[.int .u32 (Int.tmod (rd l0 a1) 16)] rfl Z8 ?_; (with_reducible refine (spec_l04Kind.calls k (Int.tmod (rd l0 a1) 16) t601 _ A5.out).mono ?_); rintro e w' ⟨rfl, ⟨nd, rfl⟩⟩; refine ⟨_, rfl, ?_⟩) | ((with_reducible refine gate_callee (f := 90) rfl ?_); refine goesL_ (some 23) rfl rfl Tryz.func90 Z0 rfl #[.int .u32 (Int.tmod (rd l0 a1) 16)] rfl Z8 ?_; (with_reducible refine (spec_l04Kind.calls k (Int.tmod (rd l0 a1) 16) t602 _ A7.out).mono ?_); rintro e w' ⟨rfl, ⟨nd, rfl⟩⟩; refine ⟨_, rfl, ?_⟩) | ((with_reducible refine gate_callee (f := 91) rfl ?_); refine goesL_ (some 24) rfl rfl Tryz.func91 Z0 rfl #[.slice (some ad600) l0.length c0, .int .i64 a1, .int .i64 t602] rfl Z8 ?_; (with_reducible refine (spec_l04Name.calls k _ _ l0 a1 t602 t603 t604 t605 t606 t607 t608 _ ?side1 ?side2 A8.out).mono ?_); (case side1 => exact Kd.C_below HR0.out Z90); (case side2 => exact HC0.out); rintro e w21 ⟨rfl, hb⟩; refine ⟨_, rfl, ?_⟩; replace BK598 := Z (Yk9 BK598 hb); replace BK599 := Z (blk_below (g := gb599) (o := .cells #[.int .i64 0, .string (⟨#[]⟩ : ByteArray), .int .i32 0, .bool false, .int .u32 0] 46 (0, 0)) (Z24 BK599) hb); replace HB := Z (below_step Z90 hb); (try clear hb); (try clear hb2); (try clear hk); (try clear hi); have hcz22 := Yb5 BK599.out; have hcz23 := Yb5 BK598.out))
  refine bodyPost_ret (results_ct rfl _ _ gb598 46 #[.int .i64 t603, .string t604, .int .i32 t605, .bool t606, .int .u32 t607] (0, 0) _ rfl (by (with_reducible repeat (first | refine blk_drewN ?_ _ | refine blk_drew ?_ | refine blk_alloc ?_ _)); refine blk_put (cs := #[.int .i64 t603, .string t604, .int .i32 t605, .bool t606, .int .u32 0]) ?_ 4 _ rfl; (with_reducible repeat (first | refine blk_drewN ?_ _ | refine blk_drew ?_ | refine blk_alloc ?_ _)); refine blk_put (cs := #[.int .i64 t603, .string t604, .int .i32 t605, .bool false, .int .u32 0]) ?_ 3 _ rfl; (with_reducible repeat (first | refine blk_drewN ?_ _ | refine blk_drew ?_ | refine blk_alloc ?_ _)); refine blk_put (cs := #[.int .i64 t603, .string t604, .int .i32 0, .bool false, .int .u32 0]) ?_ 2 _ rfl; (with_reducible repeat (first | refine blk_drewN ?_ _ | refine blk_drew ?_ | refine blk_alloc ?_ _)); refine blk_put (cs := #[.int .i64 t603, .string (⟨#[]⟩ : ByteArray), .int .i32 0, .bool false, .int .u32 0]) ?_ 1 _ rfl; (with_reducible repeat (first | refine blk_drewN ?_ _ | refine blk_drew ?_ | refine blk_alloc ?_ _)); refine blk_put (cs := #[.int .i64 0, .string (⟨#[]⟩ : ByteArray), .int .i32 0, .bool false, .int .u32 0]) ?_ 0 _ rfl; (with_reducible repeat (first | refine blk_drewN ?_ _ | refine blk_drew ?_ | refine blk_alloc ?_ _)); refine blk_far ?_ NB598_599.out _; (with_reducible repeat (first | refine blk_drewN ?_ _ | refine blk_drew ?_ | refine blk_alloc ?_ _)); refine blk_far ?_ NB598_599.out _; (with_reducible repeat (first | refine blk_drewN ?_ _ | refine blk_drew ?_ | refine blk_alloc ?_ _)); refine blk_far ?_ NB598_599.out _; (with_reducible repeat (first | refine blk_drewN ?_ _ | refine blk_drew ?_ | refine blk_alloc ?_ _)); refine blk_far ?_ NB598_599.out _; (with_reducible repeat (first | refine blk_drewN ?_ _ | refine blk_drew ?_ | refine blk_alloc ?_ _)); refine blk_far ?_ NB598_599.out _; (with_reducible repeat (first | refine blk_drewN ?_ _ | refine blk_drew ?_ | refine blk_alloc ?_ _)); exact BK598.out) Tryz.underlying46 rfl Z0) rfl ?_
  exact ⟨Z91, Z90⟩
 have c6b0 : decide (0 ≤ t601) = false := decide_eq_false c6; clear c6; have HC24 := Aside0.mk H; clear H; go_enter Tryz.func56, Tryz.ntmps56
 go_upto_region 5 with (first | ((with_reducible refine gate_dst (N := 4) rfl ?_); (try (refine gate_guard (by rfl) ?_; dsimp only)); refine box_event (by rfl) (N := 4) (by rfl) (cs := #[.int .i64 0, .string (⟨#[]⟩ : ByteArray), .int .i32 0, .bool false, .int .u32 0]) (t := 46) Z4 ?_; intro gb598 hg w25 hbox hb; have BK598 := Z (hbox); have GW598 := Z ((Z124 : w.heap.size ≤ gb598)); have GE598 := Z ((Z124 : w.heap.size ≤ gb598)); replace HB := Z (below_step Z90 hb); clear hb hbox hg) | ((with_reducible refine gate_dst (N := 6) rfl ?_); (try (refine gate_guard (by rfl) ?_; dsimp only)); refine box_event (by rfl) (N := 6) (by rfl) (cs := #[.int .i64 0, .string (⟨#[]⟩ : ByteArray), .int .i32 0, .bool false, .int .u32 0]) (t := 46) Z4 ?_; intro gb599 hg w26 hbox hb; have BK599 := Z (hbox); have GW599 := Z ((Z124 : w.heap.size ≤ gb599)); have GE599 := Z ((Z124 : w.heap.size ≤ gb599)); replace HB := Z (below_step Z90 hb); have NB598_599 := Z ((Z112 : gb598 ≠ gb599)); have NB599_598 := Z ((Z113 : gb599 ≠ gb598)); replace BK598 := Z (Yk9 BK598 hb); clear hb hbox hg; have hnb27 := NB599_598.out; have hnc27 := NB598_599.out; have hcz28 := Yb5 BK599.out; have p600 : 0 ≤ (a1 : Int) := of_decide_eq_true Z7; have q600 : a1 < (l0.length : Int) := of_decide_eq_true Z7; obtain ⟨ad600, e600, hx600_0⟩ := Kd.at_int HR0.out a1 p600 q600; cases e600; have hn600_0 : ad600.block ≠ gb599 := Nat.ne_of_lt (Nat.lt_of_lt_of_le Z64 GW599.out); have hn600_1 : ad600.block ≠ gb599 := Nat.ne_of_lt (Nat.lt_of_lt_of_le Z64 GW599.out); have hn600_2 : ad600.block ≠ gb599 := Nat.ne_of_lt (Nat.lt_of_lt_of_le Z64 GW599.out); have hn600_3 : ad600.block ≠ gb599 := Nat.ne_of_lt (Nat.lt_of_lt_of_le Z64 GW599.out); have hn600_4 : ad600.block ≠ gb599 := Nat.ne_of_lt (Nat.lt_of_lt_of_le Z64 GW599.out); replace hx600_0 := Yh HB.out hx600_0; replace hx600_0 := (cell_far (p := ⟨gb599, 0, none⟩) Z65 (.int .i64 0)).trans hx600_0; replace hx600_0 := (cell_far (p := ⟨gb599, 1, none⟩) Z66 (.string (⟨#[]⟩ : ByteArray))).trans hx600_0; replace hx600_0 := (cell_far (p := ⟨gb599, 2, none⟩) Z67 (.int .i32 0)).trans hx600_0; replace hx600_0 := (cell_far (p := ⟨gb599, 3, none⟩) Z68 (.bool false)).trans hx600_0; replace hx600_0 := (cell_far (p := ⟨gb599, 4, none⟩) Z69 (.int .u32 0)).trans hx600_0; clear hn600_0; clear hn600_1; clear hn600_2; clear hn600_3; clear hn600_4; replace p600 := eq_true p600; replace q600 := eq_true q600) | ((with_reducible refine gate_callee (f := 90) rfl ?_); refine goesL_ (some 17) rfl rfl Tryz.func90 Z0 rfl #[.int .u32 (Int.tmod (rd l0 a1) 16)] rfl Z8 ?_; (with_reducible refine (spec_l04Kind.calls k (Int.tmod (rd l0 a1) 16) t601 _ A5.out).mono ?_); rintro e w' ⟨rfl, ⟨nd, rfl⟩⟩; refine ⟨_, rfl, ?_⟩))
 (try simp only [Act.put, List.setIfInBounds_toArray, List.set_cons_zero, List.set_cons_succ])
 go_cut [27] (fun v27 wc => ∃ (kq : Nat) (x27_23 : Bool), v27 = .bool x27_23 ∧ Aside0 (spec_l04Item.j0 kq l0 a1 0 (Int.tmod (rd l0 a1) 16) x27_23 0 (⟨#[]⟩ : ByteArray) 0 false 0 = some (r1, r2, r3, r4, r5, r6)) ∧ Aside0 (kq ≤ k) ∧ Aside0 (wc.heap[gb598]? = some (.cells #[.int .i64 0, .string (⟨#[]⟩ : ByteArray), .int .i32 0, .bool false, .int .u32 0] 46 (0, 0))) ∧ Aside0 (wc.heap[gb599]? = some (.cells #[.int .i64 0, .string (⟨#[]⟩ : ByteArray), .int .i32 0, .bool false, .int .u32 0] 46 (0, 0))) ∧ Aside0 (Below w.heap.size w wc))
 case first =>
  have H := HC24.out; clear HC24; replace H := Yi H; rcases H with ⟨c29, H⟩ | ⟨c29, H⟩
  ·obtain ⟨c29b0, c29b1⟩ := Ye c29; clear c29
   (first | rw [c29b0] | (simp only [i64_w, i32_w]; rw [c29b0]) | skip)
   have H' := Aside0.mk H; clear H
   go_wp2
   go_meet
   case rel => exact ⟨_, (true), Z2, H', ⟨Z14⟩, ⟨(Z72 BK598)⟩, ⟨(Z24 BK599)⟩, ⟨Z90⟩⟩
  obtain ⟨c29b0, c29b1⟩ := Yn c29
  (first | rw [c29b0] | (simp only [i64_w, i32_w]; rw [c29b0]) | skip)
  replace H := Yi H; rcases H with ⟨c30, H⟩ | ⟨c30, H⟩
  ·obtain ⟨c30b0, c30b1⟩ := Ye c30; clear c30; have H' := Aside0.mk H; clear H
   go_wp2
   go_meet
   case rel => exact ⟨_, (true), Z2, H', ⟨Z14⟩, ⟨(Z72 BK598)⟩, ⟨(Z24 BK599)⟩, ⟨Z90⟩⟩
  obtain ⟨c30b0, c30b1⟩ := Yn c30; replace H := Yi H; rcases H with ⟨c31, H⟩ | ⟨c31, H⟩
  ·obtain ⟨c31b0, c31b1⟩ := Ye c31; clear c31; have H' := Aside0.mk H; clear H
   go_wp2
   go_meet
   case rel => exact ⟨_, (true), Z2, H', ⟨Z14⟩, ⟨(Z72 BK598)⟩, ⟨(Z24 BK599)⟩, ⟨Z90⟩⟩
  obtain ⟨c31b0, c31b1⟩ := Yn c31; have H' := Aside0.mk H; clear H
  go_wp2
  go_meet
  case rel => exact ⟨_, (((Int.tmod (rd l0 a1) 16) == 5)), Z2, H', ⟨Z14⟩, ⟨(Z72 BK598)⟩, ⟨(Z24 BK599)⟩, ⟨Z90⟩⟩
 case rest =>
  clear HC24; (try clear c1); (try clear c2); (try clear p2); (try clear c3); (try clear c3b0); (try clear c4); (try clear c4b0); (try clear c5); (try clear c6); (try clear c6b0); (try clear p6); (try clear q6); (try clear hx6); (try clear c9); (try clear c9b0); (try clear c9b1); (try clear c12); (try clear c19); (try clear c27); (try clear c29); (try clear c29b0); (try clear c29b1); (try clear c30); (try clear c30b0); (try clear c30b1); (try clear c31); (try clear c31b0); (try clear c31b1); (try clear hcz13); (try clear hcz15); (try clear hcz16); (try clear hcz20); (try clear hcz22); (try clear hcz23); (try clear hcz28); (try clear hx600_0); (try clear hx609_0); (try clear p600); (try clear p609); (try clear q600); (try clear q609); obtain ⟨kq, x27_23, rfl, HA, HJ23, BK598, BK599, HB⟩ := hcut
  cases kq with
  | zero => exact absurd HA.out (by simp [spec_l04Item.j0])
  | succ kj23 =>
   have H := HA.out; clear HA; simp only [spec_l04Item.j0] at H; by_cases c32 : x27_23 = true
   ·subst c32; replace H := Yt H; replace H := Yd H; obtain ⟨⟨t610, t611, t612, t613, t614, t615⟩, A33, H⟩ := H; (try dsimp only at H); replace H := Yi H; rcases H with ⟨c34, H⟩ | ⟨c34, H⟩
    ·obtain ⟨c34b0, c34b1⟩ := Ye c34; clear c34; replace H := Yg H; obtain ⟨c35, H⟩ := H; have c35b0 := decide_eq_true c35; clear c35; replace H := Yg H; obtain ⟨c36, H⟩ := H; have c36b0 := decide_eq_true c36; clear c36; simp only [Option.some.injEq, Prod.mk.injEq] at H; obtain ⟨rfl, rfl, rfl, rfl, rfl, rfl⟩ := H
     go_wp2_with (first | ((with_reducible refine gate_callee (f := 92) rfl ?_); refine goesL_ (some 45) rfl rfl Tryz.func92 Z0 rfl #[.slice (some ad600) l0.length c0, .int .i64 a1] rfl Z8 ?_; (with_reducible refine (spec_l04Number.calls kj23 _ _ l0 a1 t610 t611 t612 t613 t614 t615 _ ?side1 ?side2 A33.out).mono ?_); (case side1 => exact (Z31 HR0)); (case side2 => exact HC0.out); rintro e w37 ⟨rfl, hb⟩; refine ⟨_, rfl, ?_⟩; replace BK598 := Z (Yk9 BK598 hb); replace BK599 := Z (Yk9 BK599 hb); replace HB := Z (below_step Z90 hb); (try clear hb); (try clear hb2); (try clear hk); (try clear hi); have hnb38 := NB599_598.out; have hnc38 := NB598_599.out; have hcz39 := Yb5 BK599.out; have p616 : 0 ≤ (a1 : Int) := of_decide_eq_true Z7; have q616 : a1 < (l0.length : Int) := of_decide_eq_true Z7; obtain ⟨ad616, e616, hx616_0⟩ := Kd.at_int HR0.out a1 p616 q616; obtain rfl : ad600 = ad616 := (by injection e616); have hn616_0 : ad600.block ≠ gb599 := Nat.ne_of_lt (Nat.lt_of_lt_of_le Z73 GW599.out); have hn616_1 : ad600.block ≠ gb599 := Nat.ne_of_lt (Nat.lt_of_lt_of_le Z73 GW599.out); have hn616_2 : ad600.block ≠ gb599 := Nat.ne_of_lt (Nat.lt_of_lt_of_le Z73 GW599.out); have hn616_3 : ad600.block ≠ gb599 := Nat.ne_of_lt (Nat.lt_of_lt_of_le Z73 GW599.out); have hn616_4 : ad600.block ≠ gb599 := Nat.ne_of_lt (Nat.lt_of_lt_of_le Z73 GW599.out); replace hx616_0 := Yh HB.out hx616_0; replace hx616_0 := (cell_far (p := ⟨gb599, 0, none⟩) (by first | (rw [add_block]; exact hn616_0) | (show (Addr.add _ _).block ≠ _; rw [add_block]; exact hn616_0) | exact hn616_0) (.int .i64 t610)).trans hx616_0; replace hx616_0 := (cell_far (p := ⟨gb599, 1, none⟩) (by first | (rw [add_block]; exact hn616_1) | (show (Addr.add _ _).block ≠ _; rw [add_block]; exact hn616_1) | exact hn616_1) (.string t611)).trans hx616_0; replace hx616_0 := (cell_far (p := ⟨gb599, 2, none⟩) (by first | (rw [add_block]; exact hn616_2) | (show (Addr.add _ _).block ≠ _; rw [add_block]; exact hn616_2) | exact hn616_2) (.int .i32 t612)).trans hx616_0; replace hx616_0 := (cell_far (p := ⟨gb599, 3, none⟩) (by first | (rw [add_block]; exact hn616_3) | (show (Addr.add _ _).block ≠ _; rw [add_block]; exact hn616_3) | exact hn616_3) (.bool t613)).trans hx616_0; replace hx616_0 := (cell_far (p := ⟨gb599, 4, none⟩) (by first | (rw [add_block]; exact hn616_4) | (show (Addr.add _ _).block ≠ _; rw [add_block]; exact hn616_4) | exact hn616_4) (.int .u32 t614)).trans hx616_0; clear hn616_0; clear hn616_1; clear hn616_2; clear hn616_3; clear hn616_4; replace p616 := eq_true p616; replace q616 := eq_true q616; have hcz40 := Yb5 BK598.out))
     refine bodyPost_ret (results_ct rfl _ _ gb598 46 #[.int .i64 0, .string (⟨#[]⟩ : ByteArray), .int .i32 0, .bool false, .int .u32 (rd l0 a1)] (0, 0) _ rfl (Z71 BK598) Tryz.underlying46 rfl Z0) rfl ?_
     exact ⟨Z91, Z90⟩
    obtain ⟨c34b0, c34b1⟩ := Yn c34; simp only [Option.some.injEq, Prod.mk.injEq] at H; obtain ⟨rfl, rfl, rfl, rfl, rfl, rfl⟩ := H
    go_wp2_with (first | ((with_reducible refine gate_callee (f := 92) rfl ?_); refine goesL_ (some 45) rfl rfl Tryz.func92 Z0 rfl #[.slice (some ad600) l0.length c0, .int .i64 a1] rfl Z8 ?_; (with_reducible refine (spec_l04Number.calls kj23 _ _ l0 a1 t610 t611 t612 t613 t614 t615 _ ?side1 ?side2 A33.out).mono ?_); (case side1 => exact (Z31 HR0)); (case side2 => exact HC0.out); rintro e w41 ⟨rfl, hb⟩; refine ⟨_, rfl, ?_⟩; replace BK598 := Z (Yk9 BK598 hb); replace BK599 := Z (Yk9 BK599 hb); replace HB := Z (below_step Z90 hb); (try clear hb); (try clear hb2); (try clear hk); (try clear hi); have hnb42 := NB599_598.out; have hnc42 := NB598_599.out; have hcz43 := Yb5 BK599.out; have hcz44 := Yb5 BK598.out))
    refine bodyPost_ret (results_ct rfl _ _ gb598 46 #[.int .i64 t610, .string t611, .int .i32 t612, .bool t613, .int .u32 t614] (0, 0) _ rfl (by (with_reducible repeat (first | refine blk_drewN ?_ _ | refine blk_drew ?_ | refine blk_alloc ?_ _)); refine blk_put (cs := #[.int .i64 t610, .string t611, .int .i32 t612, .bool t613, .int .u32 0]) ?_ 4 _ rfl; (with_reducible repeat (first | refine blk_drewN ?_ _ | refine blk_drew ?_ | refine blk_alloc ?_ _)); refine blk_put (cs := #[.int .i64 t610, .string t611, .int .i32 t612, .bool false, .int .u32 0]) ?_ 3 _ rfl; (with_reducible repeat (first | refine blk_drewN ?_ _ | refine blk_drew ?_ | refine blk_alloc ?_ _)); refine blk_put (cs := #[.int .i64 t610, .string t611, .int .i32 0, .bool false, .int .u32 0]) ?_ 2 _ rfl; (with_reducible repeat (first | refine blk_drewN ?_ _ | refine blk_drew ?_ | refine blk_alloc ?_ _)); refine blk_put (cs := #[.int .i64 t610, .string (⟨#[]⟩ : ByteArray), .int .i32 0, .bool false, .int .u32 0]) ?_ 1 _ rfl; (with_reducible repeat (first | refine blk_drewN ?_ _ | refine blk_drew ?_ | refine blk_alloc ?_ _)); refine blk_put (cs := #[.int .i64 0, .string (⟨#[]⟩ : ByteArray), .int .i32 0, .bool false, .int .u32 0]) ?_ 0 _ rfl; (with_reducible repeat (first | refine blk_drewN ?_ _ | refine blk_drew ?_ | refine blk_alloc ?_ _)); refine blk_far ?_ NB598_599.out _; (with_reducible repeat (first | refine blk_drewN ?_ _ | refine blk_drew ?_ | refine blk_alloc ?_ _)); refine blk_far ?_ NB598_599.out _; (with_reducible repeat (first | refine blk_drewN ?_ _ | refine blk_drew ?_ | refine blk_alloc ?_ _)); refine blk_far ?_ NB598_599.out _; (with_reducible repeat (first | refine blk_drewN ?_ _ | refine blk_drew ?_ | refine blk_alloc ?_ _)); refine blk_far ?_ NB598_599.out _; (with_reducible repeat (first | refine blk_drewN ?_ _ | refine blk_drew ?_ | refine blk_alloc ?_ _)); refine blk_far ?_ NB598_599.out _; (with_reducible repeat (first | refine blk_drewN ?_ _ | refine blk_drew ?_ | refine blk_alloc ?_ _)); exact BK598.out) Tryz.underlying46 rfl Z0) rfl ?_
    exact ⟨Z91, Z90⟩
   replace c32 := Bool.eq_false_iff.mpr c32; subst c32; replace H := Yf H; have HC45 := Aside0.mk H; clear H
   go_upto_region 7 with (fail)
   go_cut [48] (fun v48 wc => ∃ (kq : Nat) (x48_44 : Bool), v48 = .bool x48_44 ∧ Aside0 (spec_l04Item.j1 kq l0 a1 0 x48_44 0 (⟨#[]⟩ : ByteArray) 0 false 0 = some (r1, r2, r3, r4, r5, r6)) ∧ Aside0 (kq ≤ kj23) ∧ Aside0 (wc.heap[gb598]? = some (.cells #[.int .i64 0, .string (⟨#[]⟩ : ByteArray), .int .i32 0, .bool false, .int .u32 0] 46 (0, 0))) ∧ Aside0 (wc.heap[gb599]? = some (.cells #[.int .i64 0, .string (⟨#[]⟩ : ByteArray), .int .i32 0, .bool false, .int .u32 0] 46 (0, 0))) ∧ Aside0 (Below w.heap.size w wc))
   case first =>
    have H := HC45.out; clear HC45; replace H := Yi H; rcases H with ⟨c46, H⟩ | ⟨c46, H⟩
    ·obtain ⟨c46b0, c46b1⟩ := Ye c46; clear c46
     (first | rw [c46b0] | (simp only [i64_w, i32_w]; rw [c46b0]) | skip)
     replace H := Yi H; rcases H with ⟨c47, H⟩ | ⟨c47, H⟩
     ·have c47b0 := decide_eq_true c47; clear c47; replace H := Yg H; obtain ⟨c48, H⟩ := H; have c48b0 := decide_eq_true c48; clear c48; replace H := Yg H; obtain ⟨c49, H⟩ := H; have c49b0 := decide_eq_true c49; clear c49; replace H := Yd H; obtain ⟨t618, A50, H⟩ := H; (try dsimp only at H); have H' := Aside0.mk H; clear H; have p617 : 0 ≤ (a1 : Int) := of_decide_eq_true Z7; have q617 : a1 < (l0.length : Int) := of_decide_eq_true Z7; obtain ⟨ad617, e617, hx617_0⟩ := Kd.at_int HR0.out a1 p617 q617; obtain rfl : ad600 = ad617 := (by injection e617); replace hx617_0 := Yh HB.out hx617_0; replace p617 := eq_true p617; replace q617 := eq_true q617
      go_wp2_with (first | (go_at_call 93; (with_reducible refine (spec_FieldOk.calls kj23 ((Int.tdiv (rd l0 a1) 16) % 4294967296) t618 _ A50.out).mono ?_); rintro e w51 ⟨rfl, hb⟩; replace BK598 := Z (Yk9 BK598 hb); replace BK599 := Z (Yk9 BK599 hb); replace HB := Z (below_step Z90 hb); (try clear hb); (try clear hb2); (try clear hk); (try clear hi)))
      go_meet
      case rel => exact ⟨_, (t618), Z2, H', ⟨Z74⟩, ⟨(Z15 BK598)⟩, ⟨(Z15 BK599)⟩, ⟨Z90⟩⟩
     have c47b0 := decide_eq_false c47; clear c47; have H' := Aside0.mk H; clear H
     go_wp2
     go_meet
     case rel => exact ⟨_, (false), Z2, H', ⟨Z74⟩, ⟨(Z15 BK598)⟩, ⟨(Z15 BK599)⟩, ⟨Z90⟩⟩
    obtain ⟨c46b0, c46b1⟩ := Yn c46
    (first | rw [c46b0] | (simp only [i64_w, i32_w]; rw [c46b0]) | skip)
    have H' := Aside0.mk H; clear H
    go_wp2
    go_meet
    case rel => exact ⟨_, (false), Z2, H', ⟨Z74⟩, ⟨(Z15 BK598)⟩, ⟨(Z15 BK599)⟩, ⟨Z90⟩⟩
   case rest =>
    clear HC45; (try clear c1); (try clear c2); (try clear p2); (try clear c3); (try clear c3b0); (try clear c4); (try clear c4b0); (try clear c5); (try clear c6); (try clear c6b0); (try clear p6); (try clear q6); (try clear hx6); (try clear c9); (try clear c9b0); (try clear c9b1); (try clear c12); (try clear c19); (try clear c27); (try clear c29); (try clear c29b0); (try clear c29b1); (try clear c30); (try clear c30b0); (try clear c30b1); (try clear c31); (try clear c31b0); (try clear c31b1); (try clear c32); (try clear c34); (try clear c34b0); (try clear c34b1); (try clear c35); (try clear c35b0); (try clear c36); (try clear c36b0); (try clear c38); (try clear c42); (try clear c46); (try clear c46b0); (try clear c46b1); (try clear c47); (try clear c47b0); (try clear c48); (try clear c48b0); (try clear c49); (try clear c49b0); (try clear hcz13); (try clear hcz15); (try clear hcz16); (try clear hcz20); (try clear hcz22); (try clear hcz23); (try clear hcz28); (try clear hcz39); (try clear hcz40); (try clear hcz43); (try clear hcz44); (try clear hx600_0); (try clear hx609_0); (try clear hx616_0); (try clear hx617_0); (try clear p2); (try clear p6); (try clear p600); (try clear p609); (try clear p616); (try clear p617); (try clear q6); (try clear q600); (try clear q609); (try clear q616); (try clear q617); obtain ⟨kq, x48_44, rfl, HA, HJ44, BK598, BK599, HB⟩ := hcut
    cases kq with
    | zero => exact absurd HA.out (by simp [spec_l04Item.j1])
    | succ kj44 =>
     have H := HA.out; clear HA; simp only [spec_l04Item.j1] at H; by_cases c52 : x48_44 = true
     ·subst c52; replace H := Yt H; replace H := Yg H; obtain ⟨c53, H⟩ := H; have c53b0 := decide_eq_true c53; clear c53; replace H := Yg H; obtain ⟨c54, H⟩ := H; have c54b0 := decide_eq_true c54; clear c54; replace H := Yd H; obtain ⟨t620, A55, H⟩ := H; (try dsimp only at H); obtain ⟨ji56, hji56⟩ : ∃ j_ : Int, (wrap64 (a1 + 1)) = j_ := ⟨_, rfl⟩; replace H : (if 0 ≤ (ji56) then (if (ji56) < (l0.length : Int) then (if 2 = 0 then (some (0, (⟨#[]⟩ : ByteArray), 0, false, rd l0 a1, 1)) else (some (9, t620, wrap32 (rd l0 (ji56)), false, 0, 2))) else (none)) else (none)) = some (r1, r2, r3, r4, r5, r6) := by first | (rw [hji56] at H; exact H) | (simp only [hji56] at H ⊢; exact H)
      (try rw [hji56] at A55)
      have hji56w : (IntKind.i64.wrap (a1 + 1)) = ji56 := (i64_w _).trans hji56; replace H := Yg H; obtain ⟨c57, H⟩ := H; have c57b0 := decide_eq_true c57; clear c57; replace H := Yg H; obtain ⟨c58, H⟩ := H; have c58b0 := decide_eq_true c58; clear c58; replace H := Yi H; rcases H with ⟨c59, H⟩ | ⟨c59, H⟩
      ·exact absurd c59 (by decide)
      obtain ⟨c59b0, c59b1⟩ := Yn c59; simp only [Option.some.injEq, Prod.mk.injEq] at H; obtain ⟨rfl, rfl, rfl, rfl, rfl, rfl⟩ := H
      try go_wp2
      have n0_ := Z (blk_drew BK598.out); have n1_ := Z (blk_drew BK599.out); have n2_ := Z (below_drew1 HB.out); clear BK598; clear BK599; clear HB; have BK598 := n0_; have BK599 := n1_; have HB := n2_; clear n0_ n1_ n2_; have p619 : 0 ≤ (a1 : Int) := of_decide_eq_true Z7; have q619 : a1 < (l0.length : Int) := of_decide_eq_true Z7; obtain ⟨ad619, e619, hx619_0⟩ := Kd.at_int HR0.out a1 p619 q619; have hw619_0 := hx619_0; obtain rfl : ad600 = ad619 := (by injection e619); replace hx619_0 := Yh HB.out hx619_0; replace p619 := eq_true p619; replace q619 := eq_true q619; have p621 : 0 ≤ ((ji56) : Int) := of_decide_eq_true Z7; have q621 : (ji56) < (l0.length : Int) := of_decide_eq_true Z7; obtain ⟨ad621, e621, hx621_0⟩ := Kd.at_int HR0.out (ji56) p621 q621; have hw621_0 := hx621_0; obtain rfl : ad600 = ad621 := (by injection e621); replace hx621_0 := Yh HB.out hx621_0; replace p621 := eq_true p621; replace q621 := eq_true q621; refine start_ (n := 15) (S := fun w' => w'.cell? (ad600.add (a1).toNat) = some (.int .u32 (rd l0 a1)) ∧ w'.cell? (ad600.add ((ji56)).toNat) = some (.int .u32 (rd l0 (ji56)))) (ds := []) #[false, false, false, false, false, false, false, false, false, false, false, false, false, false, false] Z0 rfl rfl ⟨((HB.out.cell (World.block_lt_of_cell? w _ hw619_0)).trans hw619_0), ((HB.out.cell (World.block_lt_of_cell? w _ hw621_0)).trans hw621_0)⟩ (fun hHeld => ?_); refine with_tabW spec_l04Item.tab8 spec_l04Item.bits8 (fun HT_ HW_ => ?_)
      generalize wc.drew = w60 at BK598 BK599 HB hx619_0 hx621_0 hHeld ⊢; refine pure_ (i := 0) (N := some 66) (v := ?_) (a' := ?_) #[true, false, false, false, false, false, false, false, false, false, false, false, false, false, false] rfl rfl (any_of HT_.out Z0) (fun _ _ _ h => h) (Or.inl ⟨by rfl, ?_⟩) ?_ ?_
      rotate_left
      ·intro w'
       go_simp
       with_reducible rfl
      rotate_left
      ·simp only [Act.put, List.setIfInBounds_toArray, List.set_cons_zero, List.set_cons_succ, i64_w, i32_w]
       rfl
      refine pure_ (i := 1) (N := some 67) (v := ?_) (a' := ?_) #[true, true, false, false, false, false, false, false, false, false, false, false, false, false, false] rfl rfl (any_of HT_.out Z0) (fun _ _ _ h => h) (Or.inl ⟨by rfl, ?_⟩) ?_ ?_
      rotate_left
      ·intro w'
       go_simp
       with_reducible rfl
      rotate_left
      ·simp only [Act.put, List.setIfInBounds_toArray, List.set_cons_zero, List.set_cons_succ, i64_w, i32_w]
       rfl
      refine pure_ (i := 2) (N := some 68) (v := ?_) (a' := ?_) #[true, true, true, false, false, false, false, false, false, false, false, false, false, false, false] rfl rfl (any_of HT_.out Z0) (fun _ _ _ h => h) (Or.inl ⟨by rfl, ?_⟩) ?_ ?_
      rotate_left
      ·intro w'
       go_simp
       with_reducible rfl
      rotate_left
      ·simp only [Act.put, List.setIfInBounds_toArray, List.set_cons_zero, List.set_cons_succ, i64_w, i32_w]
       rfl
      refine pure_ (i := 6) (N := some 72) (v := ?_) (a' := ?_) #[true, true, true, false, false, false, true, false, false, false, false, false, false, false, false] rfl rfl (any_of HT_.out Z0) (fun _ _ _ h => h) (Or.inl ⟨by rfl, ?_⟩) ?_ ?_
      rotate_left
      ·intro w'
       go_simp
       with_reducible rfl
      rotate_left
      ·simp only [Act.put, List.setIfInBounds_toArray, List.set_cons_zero, List.set_cons_succ, i64_w, i32_w]
       rfl
      refine pure_ (i := 7) (N := some 73) (v := ?_) (a' := ?_) #[true, true, true, false, false, false, true, true, false, false, false, false, false, false, false] rfl rfl (any_of HT_.out Z0) (fun _ _ _ h => h) (Or.inl ⟨by rfl, ?_⟩) ?_ ?_
      rotate_left
      ·intro w'
       go_simp
       with_reducible rfl
      rotate_left
      ·simp only [Act.put, List.setIfInBounds_toArray, List.set_cons_zero, List.set_cons_succ, i64_w, i32_w]
       rfl
      refine pure_ (i := 8) (N := some 74) (v := ?_) (a' := ?_) #[true, true, true, false, false, false, true, true, true, false, false, false, false, false, false] rfl rfl (any_of HT_.out Z0) (fun _ _ _ h => h) (Or.inl ⟨by rfl, ?_⟩) ?_ ?_
      rotate_left
      ·intro w'
       go_simp
       with_reducible rfl
      rotate_left
      ·simp only [Act.put, List.setIfInBounds_toArray, List.set_cons_zero, List.set_cons_succ, i64_w, i32_w]
       rfl
      refine pure_ (i := 9) (N := some 75) (v := ?_) (a' := ?_) #[true, true, true, false, false, false, true, true, true, true, false, false, false, false, false] rfl rfl (any_of HT_.out Z0) (fun _ _ _ h => h) (Or.inl ⟨by rfl, ?_⟩) ?_ ?_
      rotate_left
      ·intro w'
       go_simp
       with_reducible rfl
      rotate_left
      ·simp only [Act.put, List.setIfInBounds_toArray, List.set_cons_zero, List.set_cons_succ, i64_w, i32_w]
       rfl
      refine take_ (i := 3) (N := some 69) (v := ?_) (a' := ?_) #[true, true, true, true, false, false, true, true, true, true, false, false, false, false, false] rfl rfl (take_ofW HT_.out HW_.out Z0) (fun _ _ _ h => h) (Or.inl ⟨by rfl, ?_⟩) hHeld ?_ ?_
      rotate_left
      ·rintro w' ⟨s0, s1⟩
       go_simp
       with_reducible rfl
      rotate_left
      ·simp only [Act.put, List.setIfInBounds_toArray, List.set_cons_zero, List.set_cons_succ, i64_w, i32_w]
       rfl
      refine pure_ (i := 4) (N := some 70) (v := ?_) (a' := ?_) #[true, true, true, true, true, false, true, true, true, true, false, false, false, false, false] rfl rfl (any_of HT_.out Z0) (fun _ _ _ h => h) (Or.inl ⟨by rfl, ?_⟩) ?_ ?_
      rotate_left
      ·intro w'
       go_simp
       with_reducible rfl
      rotate_left
      ·simp only [Act.put, List.setIfInBounds_toArray, List.set_cons_zero, List.set_cons_succ, i64_w, i32_w]
       rfl
      refine take_ (i := 10) (N := some 76) (v := ?_) (a' := ?_) #[true, true, true, true, true, false, true, true, true, true, true, false, false, false, false] rfl rfl (take_ofW HT_.out HW_.out Z0) (fun _ _ _ h => h) (Or.inl ⟨by rfl, ?_⟩) hHeld ?_ ?_
      rotate_left
      ·rintro w' ⟨s0, s1⟩
       go_simp
       with_reducible rfl
      rotate_left
      ·simp only [Act.put, List.setIfInBounds_toArray, List.set_cons_zero, List.set_cons_succ, i64_w, i32_w]
       rfl
      refine pure_ (i := 11) (N := some 77) (v := ?_) (a' := ?_) #[true, true, true, true, true, false, true, true, true, true, true, true, false, false, false] rfl rfl (any_of HT_.out Z0) (fun _ _ _ h => h) (Or.inl ⟨by rfl, ?_⟩) ?_ ?_
      rotate_left
      ·intro w'
       go_simp
       with_reducible rfl
      rotate_left
      ·simp only [Act.put, List.setIfInBounds_toArray, List.set_cons_zero, List.set_cons_succ, i64_w, i32_w]
       rfl
      refine one_ (i := 5) (N := some 71) #[true, true, true, true, true, true, true, true, true, true, true, true, false, false, false] rfl rfl (one_of HT_.out Z0) (by decide) (fun K hK => ?_)
      refine goes_ Tryz.func94 Z0 rfl #[.int .u32 ((Int.tdiv (rd l0 a1) 16) % 4294967296)] (by rfl) rfl rfl Z8 ?_
      with_reducible refine (spec_UnpackOne.calls kj44 ((Int.tdiv (rd l0 a1) 16) % 4294967296) t620 _ A55.out).mono ?_
      rintro e w61 ⟨rfl, hb⟩; refine ⟨_, rfl, ?_⟩
      have n0_ := Z (Yk9 BK598 hb); have n1_ := Z (Yk9 BK599 hb); have n2_ := Z (below_step Z90 hb); clear BK598; clear BK599; clear HB; have BK598 := n0_; have BK599 := n1_; have HB := n2_; clear n0_ n1_ n2_
      (try clear hb)
      (try clear hb2)
      (try clear hk)
      (try clear hi)
      refine hK.out _ _ ⟨((HB.out.cell (World.block_lt_of_cell? w _ hw619_0)).trans hw619_0), ((HB.out.cell (World.block_lt_of_cell? w _ hw621_0)).trans hw621_0)⟩ (fun hHeld => ?_)
      clear hK K; refine norm_ (a' := ?_) ?_ ?_
      rotate_left
      ·show Act.put _ (some 71) _ = _
       simp only [Act.put, List.setIfInBounds_toArray, List.set_cons_zero, List.set_cons_succ, i64_w, i32_w]
       rfl
      refine pure_ (i := 12) (N := some 78) (v := ?_) (a' := ?_) #[true, true, true, true, true, true, true, true, true, true, true, true, true, false, false] rfl rfl (any_of HT_.out Z0) (fun _ _ _ h => h) (Or.inl ⟨by rfl, ?_⟩) ?_ ?_
      rotate_left
      ·intro w'
       go_simp
       with_reducible rfl
      rotate_left
      ·simp only [Act.put, List.setIfInBounds_toArray, List.set_cons_zero, List.set_cons_succ, i64_w, i32_w]
       rfl
      refine one_ (i := 13) (N := none) #[true, true, true, true, true, true, true, true, true, true, true, true, true, true, false] rfl rfl (one_of HT_.out Z0) (by decide) (fun K hK => ?_)
      have hs62 : w61.cell? ⟨gb599, 0, none⟩ = some (.int .i64 0) := (blk_cell BK599.out 0).trans rfl; have hfs62 := blk_frozen BK599.out 0; have hns62_0 := NB598_599.out; have hms62_0 := NB599_598.out; have hs63 : w61.cell? ⟨gb599, 1, none⟩ = some (.string (⟨#[]⟩ : ByteArray)) := (blk_cell BK599.out 1).trans rfl; have hfs63 := blk_frozen BK599.out 1; have hns63_0 := NB598_599.out; have hms63_0 := NB599_598.out; have hs64 : w61.cell? ⟨gb599, 2, none⟩ = some (.int .i32 0) := (blk_cell BK599.out 2).trans rfl; have hfs64 := blk_frozen BK599.out 2; have hns64_0 := NB598_599.out; have hms64_0 := NB599_598.out; have hs65 : w61.cell? ⟨gb599, 3, none⟩ = some (.bool false) := (blk_cell BK599.out 3).trans rfl; have hfs65 := blk_frozen BK599.out 3; have hns65_0 := NB598_599.out; have hms65_0 := NB599_598.out; have hs66 : w61.cell? ⟨gb599, 4, none⟩ = some (.int .u32 0) := (blk_cell BK599.out 4).trans rfl; have hfs66 := blk_frozen BK599.out 4; have hns66_0 := NB598_599.out; have hms66_0 := NB599_598.out; refine skip_ (w1 := ?_) (by rfl) rfl ?_ ?_
      rotate_left
      ·go_simp
       rfl
      refine hK.out _ _ ⟨((cell_far (p := ⟨gb599, _, none⟩) Z114 _).trans (((cell_far (p := ⟨gb599, _, none⟩) Z114 _).trans (((cell_far (p := ⟨gb599, _, none⟩) Z114 _).trans (((cell_far (p := ⟨gb599, _, none⟩) Z114 _).trans (((cell_far (p := ⟨gb599, _, none⟩) Z114 _).trans (hHeld.1)))))))))), ((cell_far (p := ⟨gb599, _, none⟩) Z115 _).trans (((cell_far (p := ⟨gb599, _, none⟩) Z115 _).trans (((cell_far (p := ⟨gb599, _, none⟩) Z115 _).trans (((cell_far (p := ⟨gb599, _, none⟩) Z115 _).trans (((cell_far (p := ⟨gb599, _, none⟩) Z115 _).trans (hHeld.2))))))))))⟩ (fun hHeld => ?_)
      clear hK K; refine pure_ (i := 14) (N := some 7) (v := ?_) (a' := ?_) #[true, true, true, true, true, true, true, true, true, true, true, true, true, true, true] rfl rfl (any_of HT_.out Z0) (fun _ _ _ h => h) (Or.inl ⟨by rfl, ?_⟩) ?_ ?_
      rotate_left
      ·intro w'
       go_simp
       with_reducible rfl
      rotate_left
      ·simp only [Act.put, List.setIfInBounds_toArray, List.set_cons_zero, List.set_cons_succ, i64_w, i32_w]
       rfl
      refine done_ (done_of HT_.out Z0) ?_
      have hnb67 := NB599_598.out; have hnc67 := NB598_599.out; have hcz68 := Yb5 BK599.out; have hcz69 := Yb5 BK598.out
      try go_wp2
      refine bodyPost_ret (results_ct rfl _ _ gb598 46 #[.int .i64 9, .string t620, .int .i32 (wrap32 (rd l0 (ji56))), .bool false, .int .u32 0] (0, 0) _ rfl (by (with_reducible repeat (first | refine blk_drewN ?_ _ | refine blk_drew ?_ | refine blk_alloc ?_ _)); refine blk_put (cs := #[.int .i64 9, .string t620, .int .i32 (wrap32 (rd l0 (ji56))), .bool false, .int .u32 0]) ?_ 4 _ rfl; (with_reducible repeat (first | refine blk_drewN ?_ _ | refine blk_drew ?_ | refine blk_alloc ?_ _)); refine blk_put (cs := #[.int .i64 9, .string t620, .int .i32 (wrap32 (rd l0 (ji56))), .bool false, .int .u32 0]) ?_ 3 _ rfl; (with_reducible repeat (first | refine blk_drewN ?_ _ | refine blk_drew ?_ | refine blk_alloc ?_ _)); refine blk_put (cs := #[.int .i64 9, .string t620, .int .i32 0, .bool false, .int .u32 0]) ?_ 2 _ rfl; (with_reducible repeat (first | refine blk_drewN ?_ _ | refine blk_drew ?_ | refine blk_alloc ?_ _)); refine blk_put (cs := #[.int .i64 9, .string (⟨#[]⟩ : ByteArray), .int .i32 0, .bool false, .int .u32 0]) ?_ 1 _ rfl; (with_reducible repeat (first | refine blk_drewN ?_ _ | refine blk_drew ?_ | refine blk_alloc ?_ _)); refine blk_put (cs := #[.int .i64 0, .string (⟨#[]⟩ : ByteArray), .int .i32 0, .bool false, .int .u32 0]) ?_ 0 _ rfl; (with_reducible repeat (first | refine blk_drewN ?_ _ | refine blk_drew ?_ | refine blk_alloc ?_ _)); refine blk_far ?_ NB598_599.out _; (with_reducible repeat (first | refine blk_drewN ?_ _ | refine blk_drew ?_ | refine blk_alloc ?_ _)); refine blk_far ?_ NB598_599.out _; (with_reducible repeat (first | refine blk_drewN ?_ _ | refine blk_drew ?_ | refine blk_alloc ?_ _)); refine blk_far ?_ NB598_599.out _; (with_reducible repeat (first | refine blk_drewN ?_ _ | refine blk_drew ?_ | refine blk_alloc ?_ _)); refine blk_far ?_ NB598_599.out _; (with_reducible repeat (first | refine blk_drewN ?_ _ | refine blk_drew ?_ | refine blk_alloc ?_ _)); refine blk_far ?_ NB598_599.out _; (with_reducible repeat (first | refine blk_drewN ?_ _ | refine blk_drew ?_ | refine blk_alloc ?_ _)); exact BK598.out) Tryz.underlying46 rfl Z0) rfl ?_
      exact ⟨by first | rfl | (rw [← show ∀ l_ : List UInt8, (!l_.isEmpty) = (l_ != []) from fun l_ => Z11]; rfl) | (simp [errW_none, errW_some] <;> rfl) | (simp only [← hji56]; first | rfl | (simp [errW_none, errW_some] <;> rfl)) | (simp [*, errW_none, errW_some] <;> rfl), Z90⟩
     replace c52 := Bool.eq_false_iff.mpr c52; subst c52; replace H := Yf H; replace H := Yi H; rcases H with ⟨c70, H⟩ | ⟨c70, H⟩
     ·obtain ⟨c70b0, c70b1⟩ := Ye (show (0 : Int) = 0 from rfl); clear c70; replace H := Yg H; obtain ⟨c71, H⟩ := H; have c71b0 := decide_eq_true c71; clear c71; replace H := Yg H; obtain ⟨c72, H⟩ := H; have c72b0 := decide_eq_true c72; clear c72; simp only [Option.some.injEq, Prod.mk.injEq] at H; obtain ⟨rfl, rfl, rfl, rfl, rfl, rfl⟩ := H; have p623 : 0 ≤ (a1 : Int) := of_decide_eq_true Z7; have q623 : a1 < (l0.length : Int) := of_decide_eq_true Z7; obtain ⟨ad623, e623, hx623_0⟩ := Kd.at_int HR0.out a1 p623 q623; obtain rfl : ad600 = ad623 := (by injection e623); replace hx623_0 := Yh HB.out hx623_0; replace p623 := eq_true p623; replace q623 := eq_true q623; have hnb73 := NB598_599.out; have hnc73 := NB599_598.out; have hcz74 := Yb5 BK598.out
      go_wp2
      refine bodyPost_ret (results_ct rfl _ _ gb598 46 #[.int .i64 0, .string (⟨#[]⟩ : ByteArray), .int .i32 0, .bool false, .int .u32 (rd l0 a1)] (0, 0) _ rfl (Z24 BK598) Tryz.underlying46 rfl Z0) rfl ?_
      exact ⟨Z91, Z90⟩
     exact absurd (by first | exact trivial | rfl) c70

attribute [local go_sem high] eqA46
mutual
def spec_ParseCells.l0 : Nat → List Int → List (S46) → Int → Option ((List (S46)))
 | 0, _, _, _ => none
 | k + 1, x0, x3, x4 => if x4 < (x0.length : Int) then ((spec_l04Item.f k x0 x4).bind fun bt627 => (if x3.length < 3518437208883 then (spec_ParseCells.l0 k x0 (x3 ++ [(⟨bt627.1, bt627.2.1, bt627.2.2.1, bt627.2.2.2.1, bt627.2.2.2.2.1⟩ : S46)]) (wrap64 (x4 + bt627.2.2.2.2.2))) else (none))) else (spec_ParseCells.l1 k x3)
def spec_ParseCells.l1 : Nat → List (S46) → Option ((List (S46)))
 | 0, _ => none
 | k + 1, x3 => if (x3.length : Int) > 0 then (if 0 ≤ (wrap64 ((x3.length : Int) - 1)) then (if (wrap64 ((x3.length : Int) - 1)) < (x3.length : Int) then (if (((rd_T46 x3 (wrap64 ((x3.length : Int) - 1))).f0) == 0 && ((((rd_T46 x3 (wrap64 ((x3.length : Int) - 1))).f1).toList) == ([] : List UInt8) && (((rd_T46 x3 (wrap64 ((x3.length : Int) - 1))).f2) == 0 && (!((rd_T46 x3 (wrap64 ((x3.length : Int) - 1))).f3) && (((rd_T46 x3 (wrap64 ((x3.length : Int) - 1))).f4) == 0))))) = true then (if (wrap64 ((x3.length : Int) - 1)) ≤ (x3.length : Int) then (spec_ParseCells.l1 k (x3.take ((wrap64 ((x3.length : Int) - 1)) : Int).toNat)) else (none)) else (some x3)) else (none)) else (none)) else (some x3)
end
def spec_ParseCells.f (k : Nat) (l0 : List Int) : Option ((List (S46))) := (some (([] : List (S46)) : List (S46))).bind fun y624 => (if (l0.length : Int) > 64 then (some y624) else (spec_ParseCells.l0 k l0 y624 0))
theorem spec_ParseCells.calls (k : Nat) (A0 : Option Addr) (c0 : Nat) (l0 : List Int) (r : List (S46)) (w : World) (hr0 : Kd.C (Kd.int .u32) w A0 l0.length l0) (hc0 : l0.length ≤ c0) (h : spec_ParseCells.f k l0 = some r) :
  Calls Tryz.prog 30 #[.slice A0 l0.length c0] w fun e w' => ∃ v0_ : Value, e = .returned (v0_) ∧ Kd.R k46 46 w' w.heap.size (fun _ => True) v0_ r ∧ Below w.heap.size w w' := by
 have hu46 := Tryz.underlying46; have HR0 := Aside0.mk hr0; have HC0 := Aside0.mk hc0; clear hr0 hc0; have HB := Z (Below.refl w.heap.size w); unfold spec_ParseCells.f at h; have H := h; clear h; obtain ⟨y624, hy624⟩ : ∃ y_ : List (S46), y_ = (([] : List (S46))) := ⟨_, rfl⟩; replace H : (if (l0.length : Int) > 64 then (some y624) else (spec_ParseCells.l0 k l0 y624 0)) = some r := Yy hy624 H; have Ny624 := Aside0.mk hy624; clear hy624; replace H := Yi H; rcases H with ⟨c2, H⟩ | ⟨c2, H⟩
 ·have c2b0 : decide (64 < (l0.length : Int)) = true := decide_eq_true c2; have c2b1 : decide (64 < l0.length) = true := decide_eq_true (by omega); clear c2; obtain rfl := Option.some.inj H; go_enter Tryz.func30, Tryz.ntmps30
  go_wp2_with (first | ((with_reducible refine gate_dst (N := 7) rfl ?_); (try (refine gate_guard (by rfl) ?_; dsimp only)); refine Kd.R_lit k46 _ 46 (by rfl) (N := 7) (by rfl) (xs := ([] : List (S46))) (inner := []) (ok := fun _ => True) (okp := fun _ => True) Z4 (Reps.none _ _) (fun _ hk => hk) trivial (Below.refl _ _) (Nat.le_refl _) (by simp) ?_; intro v625 w3 ho4 hb hg_ hnew_; clear hg_ hnew_; (first | rw [← Ny624.out] at ho4 | (simp only [Int.reduceToNat] at ho4; rw [← Ny624.out] at ho4)); have HO626 := Z (Kd.R_lower ho4 (below_size Z90)); replace HB := Z (below_step Z90 hb); clear hb ho4))
  go_ret
  exact ⟨_, Z91, (Z6 HO626), Z90⟩
 have c2b0 : decide (64 < (l0.length : Int)) = false := decide_eq_false c2; have c2b1 : decide (64 < l0.length) = false := decide_eq_false (by omega); clear c2; have H' := Aside0.mk H; clear H; go_enter Tryz.func30, Tryz.ntmps30
 go_wp2_with (first | ((with_reducible refine gate_dst (N := 7) rfl ?_); (try (refine gate_guard (by rfl) ?_; dsimp only)); refine Kd.R_lit k46 _ 46 (by rfl) (N := 7) (by rfl) (xs := ([] : List (S46))) (inner := []) (ok := fun _ => True) (okp := fun _ => True) Z4 (Reps.none _ _) (fun _ hk => hk) trivial (Below.refl _ _) (Nat.le_refl _) (by simp) ?_; intro v625 w5 ho6 hb hg_ hnew_; clear hg_ hnew_; (first | rw [← Ny624.out] at ho6 | (simp only [Int.reduceToNat] at ho6; rw [← Ny624.out] at ho6)); have HO626 := Z (Kd.R_lower ho6 (below_size Z90)); replace HB := Z (below_step Z90 hb); clear hb ho6))
 go_loopg [3, 4] k (fun kq v3 v4 w' => ∃ (x3_1 : List (S46)) (x4_1 : Int), v4 = .int .i64 x4_1 ∧ Aside0 (spec_ParseCells.l0 kq l0 x3_1 x4_1 = some r) ∧ Aside0 (kq ≤ k) ∧ Aside0 (Kd.R k46 46 w' w.heap.size (fun _ => True) v3 x3_1) ∧ Aside0 (Below w.heap.size w w'))
 case atStart => exact ⟨(y624), (0), Z2, H', ⟨Nat.le_refl _⟩, ⟨(Z6 HO626)⟩, ⟨Z90⟩⟩
 case round =>
  clear H'; (try clear c2); (try clear c2b0); (try clear c2b1); (try clear p2); (try clear c3); obtain ⟨x3_1, x4_1, rfl, HA, HK1, HO_3, HB⟩ := hrel
  cases gk with
  | zero => exact absurd HA.out (by simp [spec_ParseCells.l0])
  | succ k1 =>
   have H := HA.out; clear HA; simp only [spec_ParseCells.l0] at H; replace H := Yi H; rcases H with ⟨c7, H⟩ | ⟨c7, H⟩
   ·have c7b0 := decide_eq_true c7; clear c7; replace H := Yd H; obtain ⟨⟨t627, t628, t629, t630, t631, t632⟩, A8, H⟩ := H; (try dsimp only at H); replace H := Yg H; obtain ⟨c9, H⟩ := H; have LMc9 := Aside0.mk c9; clear c9; obtain ⟨y634, hy634⟩ : ∃ y_ : List (S46), y_ = (x3_1 ++ [(⟨t627, t628, t629, t630, t631⟩ : S46)]) := ⟨_, rfl⟩; replace H : (spec_ParseCells.l0 k1 l0 y634 (wrap64 (x4_1 + t632))) = some r := Yy hy634 H; have Ny634 := Aside0.mk hy634; clear hy634; have H' := Aside0.mk H; clear H
    go_wp2_with (first | ((with_reducible refine gate_callee (f := 56) rfl ?_); refine goesL_ (some 19) rfl rfl Tryz.func56 Z0 rfl #[.slice A0 l0.length c0, .int .i64 x4_1] rfl Z8 ?_; (with_reducible refine (spec_l04Item.calls k1 _ _ l0 x4_1 t627 t628 t629 t630 t631 t632 _ ?side1 ?side2 A8.out).mono ?_); (case side1 => exact (Z31 HR0)); (case side2 => exact HC0.out); rintro e w10 ⟨rfl, hb⟩; refine ⟨_, rfl, ?_⟩; replace HO_3 := Z (Kd.R_below (Z6 HO_3) hb); replace HB := Z (below_step Z90 hb); (try clear hb); (try clear hb2); (try clear hk); (try clear hi)) | ((with_reducible refine gate_dst (N := 5) rfl ?_); (try (refine gate_guard (by rfl) ?_; dsimp only)); refine box_event (by rfl) (N := 5) (by rfl) (cs := #[.int .i64 0, .string (⟨#[]⟩ : ByteArray), .int .i32 0, .bool false, .int .u32 0]) (t := 46) Z4 ?_; intro gb633 hg w11 hbox hb; replace HO_3 := Z (Kd.R_below (Kd.R_elderB (Z6 HO_3) gb633 (Nat.le_of_eq hg.symm)) hb); have BK633 := Z (hbox); have GW633 := Z ((Z124 : w.heap.size ≤ gb633)); have GE633 := Z ((Z124 : w.heap.size ≤ gb633)); replace HB := Z (below_step Z90 hb); clear hb hbox hg; have hcz12 := Yb5 BK633.out) | ((with_reducible refine gate_builtin (b := .append) (xs := #[.tmp 22, .tmp 24]) rfl ?_); (try (refine gate_guard (by rfl) ?_; dsimp only)); at_builtin; refine Kd.R_append k46 (w0 := w) w.heap.size rfl (.tmp 22) (.tmp 24) 42 46 (.agg #[(.int .i64 0), (.string ⟨#[]⟩), (.int .i32 0), (.bool false), (.int .u32 0)]) 40 rfl Tryz.underlying42 info46 rfl (by decide) (by omega) u3 x3_1 (⟨t627, t628, t629, t630, t631⟩ : S46) [.int .i64 t627, .string t628, .int .i32 t629, .bool t630, .int .u32 t631] (fun k_ => k_ ≠ gb633) (fun _ => False) rfl Z4 ?aP (fun _ hk => hk.elim) ?aF ?aO ?aB ?aS ?aL ?_; (case aP => exact k46_mkM _ _ _ (⟨t627, t628, t629, t630, t631⟩ : S46)); (case aB => exact Z90); (case aF => exact (fun k_ hk => Kd.freshB (g := gb633) (o := .cells #[.int .i64 t627, .string t628, .int .i32 t629, .bool t630, .int .u32 t631] 46 (0, 0)) (Z77 BK633) k_ hk)); (case aO => exact (by (with_reducible repeat (first | apply Kd.R_alloc | apply Kd.R_drewN | apply Kd.R_drew)); exact Kd.R_mono (Kd.R_far (p := ⟨gb633, 4, none⟩) (Kd.R_far (p := ⟨gb633, 3, none⟩) (Kd.R_far (p := ⟨gb633, 2, none⟩) (Kd.R_far (p := ⟨gb633, 1, none⟩) (Kd.R_far (p := ⟨gb633, 0, none⟩) (Kd.R_mono HO_3.out (fun k_ hk => (⟨hk, hk.2⟩ : _ ∧ k_ ≠ gb633))) (fun _ hk => hk.2) (.int .i64 t627)) (fun _ hk => hk.2) (.string t628)) (fun _ hk => hk.2) (.int .i32 t629)) (fun _ hk => hk.2) (.bool t630)) (fun _ hk => hk.2) (.int .u32 t631)) (fun _ hk => hk.1.2))); (case aS => exact (below_size Z90)); (case aL => have := LMc9.out; omega); intro v635 w13 ho hb hg hat; rw [← Ny634.out] at ho; replace BK633 := Z (blk_grown (g := gb633) (o := .cells #[.int .i64 t627, .string t628, .int .i32 t629, .bool t630, .int .u32 t631] 46 (0, 0)) (Z77 BK633) hg (Kd.R_away HO_3.out (fun _ hk => hk.2))); replace HB := Z (hb); have HO636 := Z (ho); clear HO_3; clear ho hb hg hat))
    go_roundg k1
    case measure => have := HK1.out; omega
    case rel => exact ⟨(y634), (wrap64 (x4_1 + t632)), Z2, H', ⟨Z9⟩, ⟨(Z17 HO636)⟩, ⟨Z90⟩⟩
   have c7b0 := decide_eq_false c7; clear c7; have H' := Aside0.mk H; clear H
   go_wp2
   go_loopg [3] k1 (fun kq v3 w' => ∃ (x3_2 : List (S46)), Aside0 (spec_ParseCells.l1 kq x3_2 = some r) ∧ Aside0 (kq ≤ k1) ∧ Aside0 (Kd.R k46 46 w' w.heap.size (fun _ => True) v3 x3_2) ∧ Aside0 (Below w.heap.size w w'))
   case atStart => exact ⟨(x3_1), H', ⟨Nat.le_refl _⟩, ⟨(Z6 HO_3)⟩, ⟨Z90⟩⟩
   case round =>
    clear H'; (try clear c2); (try clear c2b0); (try clear c2b1); (try clear p2); (try clear c3); (try clear c5); (try clear p6); (try clear c7); (try clear c7b0); (try clear c9); (try clear hcz12); (try clear p2); obtain ⟨x3_2, HA, HK2, HO_3, HB⟩ := hrel
    cases gk with
    | zero => exact absurd HA.out (by simp [spec_ParseCells.l1])
    | succ k2 =>
     have H := HA.out; clear HA; simp only [spec_ParseCells.l1] at H; replace H := Yi H; rcases H with ⟨c14, H⟩ | ⟨c14, H⟩
     ·have c14b0 : decide (0 < (x3_2.length : Int)) = true := decide_eq_true c14; have c14b1 : decide (0 < x3_2.length) = true := decide_eq_true (by omega); clear c14; obtain ⟨ji15, hji15⟩ : ∃ j_ : Int, (wrap64 ((x3_2.length : Int) - 1)) = j_ := ⟨_, rfl⟩; replace H : (if 0 ≤ (ji15) then (if (ji15) < (x3_2.length : Int) then (if (((rd_T46 x3_2 (ji15)).f0) == 0 && ((((rd_T46 x3_2 (ji15)).f1).toList) == ([] : List UInt8) && (((rd_T46 x3_2 (ji15)).f2) == 0 && (!((rd_T46 x3_2 (ji15)).f3) && (((rd_T46 x3_2 (ji15)).f4) == 0))))) = true then (if (ji15) ≤ (x3_2.length : Int) then (spec_ParseCells.l1 k2 (x3_2.take ((ji15) : Int).toNat)) else (none)) else (some x3_2)) else (none)) else (none)) = some r := Z13; have hji15w : (IntKind.i64.wrap ((x3_2.length : Int) - 1)) = ji15 := (i64_w _).trans hji15; replace H := Yg H; obtain ⟨c16, H⟩ := H; have c16b0 := decide_eq_true c16; clear c16; replace H := Yg H; obtain ⟨c17, H⟩ := H; have c17b0 := decide_eq_true c17; clear c17; replace H := Yi H; rcases H with ⟨c18, H⟩ | ⟨c18, H⟩
      ·have c18b0 : (((rd_T46 x3_2 (ji15)).f0) == 0 && ((((rd_T46 x3_2 (ji15)).f1).toList) == ([] : List UInt8) && (((rd_T46 x3_2 (ji15)).f2) == 0 && (!((rd_T46 x3_2 (ji15)).f3) && (((rd_T46 x3_2 (ji15)).f4) == 0))))) = true := c18
       (try (have c18b1 : (((rd_T46 x3_2 (ji15)).f0) == 0 && ((((rd_T46 x3_2 (ji15)).f1).toList).isEmpty && (((rd_T46 x3_2 (ji15)).f2) == 0 && (!((rd_T46 x3_2 (ji15)).f3) && (((rd_T46 x3_2 (ji15)).f4) == 0))))) = true := by have h_ : (((rd_T46 x3_2 (ji15)).f0) == 0 && ((((rd_T46 x3_2 (ji15)).f1).toList) == ([] : List UInt8) && (((rd_T46 x3_2 (ji15)).f2) == 0 && (!((rd_T46 x3_2 (ji15)).f3) && (((rd_T46 x3_2 (ji15)).f4) == 0))))) = true := c18; simpa only [List.beq_nil_eq] using h_))
       (try (have c18b2 : decide (((rd_T46 x3_2 (ji15)).f0) = 0 && ((((rd_T46 x3_2 (ji15)).f1).toList) == ([] : List UInt8) && (((rd_T46 x3_2 (ji15)).f2) == 0 && (!((rd_T46 x3_2 (ji15)).f3) && (((rd_T46 x3_2 (ji15)).f4) == 0))))) = true := Z78))
       (try (have c18b3 : (((rd_T46 x3_2 (ji15)).f0) == 0 && ((((rd_T46 x3_2 (ji15)).f1).toList) == ([] : List UInt8) && (((rd_T46 x3_2 (ji15)).f2) == 0 && (!((rd_T46 x3_2 (ji15)).f3) && (((rd_T46 x3_2 (ji15)).f4) == 0))))) = true := Z78))
       clear c18; replace H := Yg H; obtain ⟨c19, H⟩ := H; have c19b0 := eq_true c19; have c19b1 := decide_eq_true c19; clear c19; obtain ⟨y638, hy638⟩ : ∃ y_ : List (S46), y_ = (x3_2.take ((ji15) : Int).toNat) := ⟨_, rfl⟩; replace H : (spec_ParseCells.l1 k2 y638) = some r := Yy hy638 H; have Ny638 := Aside0.mk hy638; clear hy638; have H' := Aside0.mk H; clear H; obtain ⟨Ao20, co20, eo20⟩ := Kd.R_slice HO_3.out; subst eo20; have p637 : 0 ≤ ((ji15) : Int) := of_decide_eq_true Z7; have q637 : (ji15) < (x3_2.length : Int) := of_decide_eq_true Z7; obtain ⟨ad637, e637, hx637_0, hx637_1, hx637_2, hx637_3, hx637_4⟩ := at_T46 (Kd.R_reads' HO_3.out).2.2 (ji15) p637 q637
       cases e637
       replace p637 := eq_true p637; replace q637 := eq_true q637
       (try clear hcut20)
       have q21 : ((ji15) : Int) ≤ ((x3_2.length : Int) : Int) := of_decide_eq_true Z7; obtain ⟨i021, hi021, _, hsz21, _⟩ := info_parts info46; have hcut21 := cut_to (P := Tryz.prog) 42 46 .i64 Tryz.underlying42 hi021 (some ad637) x3_2.length co20 (ji15) (of_decide_eq_true Z7) q21 (Kd.R_reads' HO_3.out).2.1; have hl21 := (Kd.R_reads' HO_3.out).1; have hr21 := Kd.R_take (m := ((ji15) : Int).toNat) HO_3.out (by omega); have hy21 : y638.length = ((ji15) : Int).toNat := (by rw [Ny638.out, List.length_take]; omega); rw [← Ny638.out] at hr21; rw [← hy21] at hr21 hcut21; clear hl21 hy21 hi021 hsz21 HO_3; have HO640 := Aside0.mk hr21; clear hr21; replace q21 := eq_true q21
       go_wp2
       go_roundg k2
       case measure => have := HK1.out; have := HK2.out; omega
       case rel => exact ⟨(y638), H', ⟨Z10⟩, ⟨(Z6 HO640)⟩, ⟨Z90⟩⟩
      have c18b0 : (((rd_T46 x3_2 (ji15)).f0) == 0 && ((((rd_T46 x3_2 (ji15)).f1).toList) == ([] : List UInt8) && (((rd_T46 x3_2 (ji15)).f2) == 0 && (!((rd_T46 x3_2 (ji15)).f3) && (((rd_T46 x3_2 (ji15)).f4) == 0))))) = false := Z78
      (try (have c18b1 : (((rd_T46 x3_2 (ji15)).f0) == 0 && ((((rd_T46 x3_2 (ji15)).f1).toList).isEmpty && (((rd_T46 x3_2 (ji15)).f2) == 0 && (!((rd_T46 x3_2 (ji15)).f3) && (((rd_T46 x3_2 (ji15)).f4) == 0))))) = false := by have h_ : (((rd_T46 x3_2 (ji15)).f0) == 0 && ((((rd_T46 x3_2 (ji15)).f1).toList) == ([] : List UInt8) && (((rd_T46 x3_2 (ji15)).f2) == 0 && (!((rd_T46 x3_2 (ji15)).f3) && (((rd_T46 x3_2 (ji15)).f4) == 0))))) = false := Z78; simpa only [List.beq_nil_eq] using h_))
      (try (have c18b2 : decide (((rd_T46 x3_2 (ji15)).f0) = 0 && ((((rd_T46 x3_2 (ji15)).f1).toList) == ([] : List UInt8) && (((rd_T46 x3_2 (ji15)).f2) == 0 && (!((rd_T46 x3_2 (ji15)).f3) && (((rd_T46 x3_2 (ji15)).f4) == 0))))) = false := Z78))
      (try (have c18b3 : (((rd_T46 x3_2 (ji15)).f0) == 0 && ((((rd_T46 x3_2 (ji15)).f1).toList) == ([] : List UInt8) && (((rd_T46 x3_2 (ji15)).f2) == 0 && (!((rd_T46 x3_2 (ji15)).f3) && (((rd_T46 x3_2 (ji15)).f4) == 0))))) = false := Z78))
      (try (have c18b4 : ¬ (((rd_T46 x3_2 (ji15)).f0) = 0 && ((((rd_T46 x3_2 (ji15)).f1).toList) == ([] : List UInt8) && (((rd_T46 x3_2 (ji15)).f2) == 0 && (!((rd_T46 x3_2 (ji15)).f3) && (((rd_T46 x3_2 (ji15)).f4) == 0))))) := Z78))
      clear c18; obtain rfl := Option.some.inj H; obtain ⟨Ao22, co22, eo22⟩ := Kd.R_slice HO_3.out; subst eo22; have p637 : 0 ≤ ((ji15) : Int) := of_decide_eq_true Z7; have q637 : (ji15) < (x3_2.length : Int) := of_decide_eq_true Z7; obtain ⟨ad637, e637, hx637_0, hx637_1, hx637_2, hx637_3, hx637_4⟩ := at_T46 (Kd.R_reads' HO_3.out).2.2 (ji15) p637 q637
      cases e637
      replace p637 := eq_true p637; replace q637 := eq_true q637
      go_wp2
      go_ret
      exact ⟨_, by first | rfl | (rw [← show ∀ l_ : List UInt8, (!l_.isEmpty) = (l_ != []) from fun l_ => Z11]; rfl) | (simp [errW_none, errW_some] <;> rfl) | (simp only [← hji15]; first | rfl | (simp [errW_none, errW_some] <;> rfl)) | (simp [*, errW_none, errW_some] <;> rfl), (Z6 HO_3), Z90⟩
     have c14b0 : decide (0 < (x3_2.length : Int)) = false := decide_eq_false c14; have c14b1 : decide (0 < x3_2.length) = false := decide_eq_false (by omega); clear c14; obtain rfl := Option.some.inj H; obtain ⟨Ao23, co23, eo23⟩ := Kd.R_slice HO_3.out; subst eo23
     go_wp2
     go_ret
     exact ⟨_, Z91, (Z6 HO_3), Z90⟩

def spec_l04Same.l0 : Nat → List (S46) → List (S46) → Int → Option (Bool)
 | 0, _, _, _ => none
 | k + 1, x0, x1, x5 => if x5 < (x0.length : Int) then (if 0 ≤ x5 then (if x5 < (x1.length : Int) then (if (!(((rd_T46 x0 x5).f0) == ((rd_T46 x1 x5).f0)) || (!((((rd_T46 x0 x5).f1).toList) == (((rd_T46 x1 x5).f1).toList)) || (!(((rd_T46 x0 x5).f2) == ((rd_T46 x1 x5).f2)) || (!(((rd_T46 x0 x5).f3) == ((rd_T46 x1 x5).f3)) || (!(((rd_T46 x0 x5).f4) == ((rd_T46 x1 x5).f4))))))) = true then (some false) else (spec_l04Same.l0 k x0 x1 (wrap64 (x5 + 1)))) else (none)) else (none)) else (some true)
def spec_l04Same.f (k : Nat) (l0 : List (S46)) (l1 : List (S46)) : Option (Bool) := if (l0.length : Int) = (l1.length : Int) then (spec_l04Same.l0 k l0 l1 0) else (some false)
theorem spec_l04Same.calls (k : Nat) (A0 : Option Addr) (c0 : Nat) (l0 : List (S46)) (A1 : Option Addr) (c1 : Nat) (l1 : List (S46)) (r : Bool) (w : World) (hr0 : Kd.C k46 w A0 l0.length l0) (hc0 : l0.length ≤ c0) (hr1 : Kd.C k46 w A1 l1.length l1) (hc1 : l1.length ≤ c1) (h : spec_l04Same.f k l0 l1 = some r) :
  Calls Tryz.prog 63 #[.slice A0 l0.length c0, .slice A1 l1.length c1] w fun e w' => e = .returned (.bool r) ∧ Drawn0 w w' := by
 have hu46 := Tryz.underlying46; have HR0 := Aside0.mk hr0; have HC0 := Aside0.mk hc0; clear hr0 hc0; have HR1 := Aside0.mk hr1; have HC1 := Aside0.mk hc1; clear hr1 hc1; unfold spec_l04Same.f at h; have H := h; clear h; replace H := Yi H; rcases H with ⟨c3, H⟩ | ⟨c3, H⟩
 ·obtain ⟨c3b0, c3b1⟩ := Ye c3; have c3b2 : (l0.length == l1.length) = true := Z26; clear c3; have H' := Aside0.mk H; clear H; go_enter Tryz.func63, Tryz.ntmps63
  go_wp2
  repeat (go_quiet (fail); try go_wp2)
  go_loopg [5] k (fun kq v5 w' => ∃ (x5_1 : Int), v5 = .int .i64 x5_1 ∧ Aside0 (spec_l04Same.l0 kq l0 l1 x5_1 = some r) ∧ Aside0 (kq ≤ k) ∧ Drawn0 w w')
  case atStart => exact ⟨(0), Z2, H', ⟨Nat.le_refl _⟩, Z3⟩
  case round =>
   clear H'; (try clear c1); (try clear p2); (try clear c3); (try clear c3b0); (try clear c3b1); (try clear c3b2); obtain ⟨x5_1, rfl, HA, HK1, ⟨m1, rfl⟩⟩ := hrel
   cases gk with
   | zero => exact absurd HA.out (by simp [spec_l04Same.l0])
   | succ k1 =>
    have H := HA.out; clear HA; simp only [spec_l04Same.l0] at H; replace H := Yi H; rcases H with ⟨c4, H⟩ | ⟨c4, H⟩
    ·have c4b0 := decide_eq_true c4; clear c4; replace H := Yg H; obtain ⟨c5, H⟩ := H; have c5b0 := decide_eq_true c5; clear c5; replace H := Yg H; obtain ⟨c6, H⟩ := H; have c6b0 := decide_eq_true c6; clear c6; replace H := Yi H; rcases H with ⟨c7, H⟩ | ⟨c7, H⟩
     ·have c7b0 : (!(((rd_T46 l0 x5_1).f0) == ((rd_T46 l1 x5_1).f0)) || (!((((rd_T46 l0 x5_1).f1).toList) == (((rd_T46 l1 x5_1).f1).toList)) || (!(((rd_T46 l0 x5_1).f2) == ((rd_T46 l1 x5_1).f2)) || (!(((rd_T46 l0 x5_1).f3) == ((rd_T46 l1 x5_1).f3)) || (!(((rd_T46 l0 x5_1).f4) == ((rd_T46 l1 x5_1).f4))))))) = true := c7; clear c7; obtain rfl := Option.some.inj H; have p641 : 0 ≤ (x5_1 : Int) := of_decide_eq_true Z7; have q641 : x5_1 < (l0.length : Int) := of_decide_eq_true Z7; obtain ⟨ad641, e641, hx641_0, hx641_1, hx641_2, hx641_3, hx641_4⟩ := at_T46 HR0.out x5_1 p641 q641
      cases e641
      replace p641 := eq_true p641; replace q641 := eq_true q641; have p642 : 0 ≤ (x5_1 : Int) := of_decide_eq_true Z7; have q642 : x5_1 < (l1.length : Int) := of_decide_eq_true Z7; obtain ⟨ad642, e642, hx642_0, hx642_1, hx642_2, hx642_3, hx642_4⟩ := at_T46 HR1.out x5_1 p642 q642
      cases e642
      replace p642 := eq_true p642; replace q642 := eq_true q642
      go_wp2
      repeat (go_quiet (fail); try go_wp2)
      go_ret
      exact ⟨Z2, Z3⟩
     have c7b0 : (!(((rd_T46 l0 x5_1).f0) == ((rd_T46 l1 x5_1).f0)) || (!((((rd_T46 l0 x5_1).f1).toList) == (((rd_T46 l1 x5_1).f1).toList)) || (!(((rd_T46 l0 x5_1).f2) == ((rd_T46 l1 x5_1).f2)) || (!(((rd_T46 l0 x5_1).f3) == ((rd_T46 l1 x5_1).f3)) || (!(((rd_T46 l0 x5_1).f4) == ((rd_T46 l1 x5_1).f4))))))) = false := by simpa using c7
     clear c7; have H' := Aside0.mk H; clear H; have p641 : 0 ≤ (x5_1 : Int) := of_decide_eq_true Z7; have q641 : x5_1 < (l0.length : Int) := of_decide_eq_true Z7; obtain ⟨ad641, e641, hx641_0, hx641_1, hx641_2, hx641_3, hx641_4⟩ := at_T46 HR0.out x5_1 p641 q641
     cases e641
     replace p641 := eq_true p641; replace q641 := eq_true q641; have p642 : 0 ≤ (x5_1 : Int) := of_decide_eq_true Z7; have q642 : x5_1 < (l1.length : Int) := of_decide_eq_true Z7; obtain ⟨ad642, e642, hx642_0, hx642_1, hx642_2, hx642_3, hx642_4⟩ := at_T46 HR1.out x5_1 p642 q642
     cases e642
     replace p642 := eq_true p642; replace q642 := eq_true q642
     go_wp2
     repeat (go_quiet (fail); try go_wp2)
     go_roundg k1
     case measure => have := HK1.out; omega
     case rel => exact ⟨(wrap64 (x5_1 + 1)), Z2, H', ⟨Z9⟩, Z3⟩
    have c4b0 := decide_eq_false c4; clear c4; obtain rfl := Option.some.inj H
    go_wp2
    repeat (go_quiet (fail); try go_wp2)
    go_ret
    exact ⟨Z2, Z3⟩
 obtain ⟨c3b0, c3b1⟩ := Yn c3; have c3b2 : (l0.length == l1.length) = false := Z26; obtain rfl := Option.some.inj H; go_enter Tryz.func63, Tryz.ntmps63
 go_wp2
 repeat (go_quiet (fail); try go_wp2)
 go_ret
 exact ⟨Z2, Z3⟩

def spec_ListOk.f (k : Nat) (l0 : List (S46)) : Option (Bool) := (spec_Unparse.f k l0).bind fun bt643 => (if bt643.2 = true then ((spec_ParseCells.f k bt643.1).bind fun t647 => ((spec_l04Same.f k t647 l0).bind fun t650 => (some t650))) else (some false))
theorem spec_ListOk.calls (k : Nat) (A0 : Option Addr) (c0 : Nat) (l0 : List (S46)) (r : Bool) (w : World) (hr0 : Kd.C k46 w A0 l0.length l0) (hc0 : l0.length ≤ c0) (h : spec_ListOk.f k l0 = some r) :
  Calls Tryz.prog 35 #[.slice A0 l0.length c0] w fun e w' => e = .returned (.bool r) ∧ Below w.heap.size w w' := by
 have HR0 := Aside0.mk hr0; have HC0 := Aside0.mk hc0; clear hr0 hc0; have HB := Z (Below.refl w.heap.size w); unfold spec_ListOk.f at h; have H := h; clear h; replace H := Yd H; obtain ⟨⟨t643, t644⟩, A2, H⟩ := H; (try dsimp only at H); by_cases c3 : t644 = true
 ·subst c3; replace H := Yt H; replace H := Yd H; obtain ⟨t647, A4, H⟩ := H; (try dsimp only at H); replace H := Yd H; obtain ⟨t650, A5, H⟩ := H; (try dsimp only at H); obtain rfl := Option.some.inj H; go_enter Tryz.func35, Tryz.ntmps35
  go_wp2_with (first | ((with_reducible refine gate_callee (f := 34) rfl ?_); refine goesL_ (some 7) rfl rfl Tryz.func34 Z0 rfl #[.slice A0 l0.length c0] rfl Z8 ?_; (with_reducible refine (spec_Unparse.calls k _ _ l0 t643 true _ ?side1 ?side2 A2.out).mono ?_); (case side1 => exact (Z42 HR0)); (case side2 => exact HC0.out); rintro e w6 ⟨v645, rfl, ho0, hb⟩; refine ⟨_, rfl, ?_⟩; have HO646 := Z (Kd.R_lower ho0 (below_size Z90)); replace HB := Z (below_step Z90 hb); (try clear hb); (try clear hb2); (try clear hk); (try clear hi); (try clear ho0); obtain ⟨Ao7, co7, eo7⟩ := Kd.R_slice HO646.out; subst eo7) | (go_at_call 30; (with_reducible refine (spec_ParseCells.calls k _ _ t643 t647 _ ?side1 ?side2 A4.out).mono ?_); (case side1 => exact (Z30 HO646)); (case side2 => exact (Kd.R_reads' HO646.out).2.1); rintro e w8 ⟨v648, rfl, ho0, hb⟩; replace HO646 := Z (Kd.R_below (Z6 HO646) hb); have HO649 := Z (Kd.R_lower ho0 (below_size Z90)); replace HB := Z (below_step Z90 hb); (try clear hb); (try clear hb2); (try clear hk); (try clear hi); (try clear ho0); obtain ⟨Ao9, co9, eo9⟩ := Kd.R_slice HO649.out; subst eo9) | (go_at_call 63; (with_reducible refine (spec_l04Same.calls k _ _ t647 _ _ l0 t650 _ ?side1 ?side2 ?side3 ?side4 A5.out).mono ?_); (case side1 => exact (Z30 HO649)); (case side2 => exact (Kd.R_reads' HO649.out).2.1); (case side3 => exact (Z31 HR0)); (case side4 => exact HC0.out); rintro e w' ⟨rfl, ⟨nd, rfl⟩⟩))
  go_ret
  exact ⟨Z91, Z90⟩
 replace c3 := Bool.eq_false_iff.mpr c3; subst c3; replace H := Yf H; obtain rfl := Option.some.inj H; go_enter Tryz.func35, Tryz.ntmps35
 go_wp2_with (first | ((with_reducible refine gate_callee (f := 34) rfl ?_); refine goesL_ (some 7) rfl rfl Tryz.func34 Z0 rfl #[.slice A0 l0.length c0] rfl Z8 ?_; (with_reducible refine (spec_Unparse.calls k _ _ l0 t643 false _ ?side1 ?side2 A2.out).mono ?_); (case side1 => exact (Z42 HR0)); (case side2 => exact HC0.out); rintro e w10 ⟨v645, rfl, ho0, hb⟩; refine ⟨_, rfl, ?_⟩; have HO646 := Z (Kd.R_lower ho0 (below_size Z90)); replace HB := Z (below_step Z90 hb); (try clear hb); (try clear hb2); (try clear hk); (try clear hi); (try clear ho0)))
 go_ret
 exact ⟨Z91, Z90⟩

end Go.Proofs.YtfjmpdcflnaogaaGreatDoor.QFnExactImport
