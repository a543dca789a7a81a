/-
Plain functions for the Go functions that a law reaches, each with a proof that the translation's call comes to just that; no conditions beyond those written in each.
-/
import Derived.Test.YtfjmpdcflnaogaaGreatDoorSFnNotes
import Derived.Test.YtfjmpdcflnaogaaGreatDoorQFnNotesx4
namespace Go.Proofs.YtfjmpdcflnaogaaGreatDoor.QFnNotes
open Go.RowKit Go.Proofs.YtfjmpdcflnaogaaGreatDoorW.PrintWords Go.Proofs.YtfjmpdcflnaogaaGreatDoorW.PrintLast Go.Proofs.YtfjmpdcflnaogaaGreatDoorW.PrintMore
attribute [local go_sem] max2_int min2_int max_two min_two max_three min_three max_four min_four   -- for this text's walks alone
set_option linter.unusedVariables false
set_option maxHeartbeats 8000000
set_option maxRecDepth 100000
set_option linter.unusedSimpArgs false

mutual
def impl_parseOne.j0 : Nat → List Int → Int → Int → Int → Bool → Int → ByteArray → Int → Bool → Int → Option (Int × ByteArray × Int × Bool × Int)
 | 0, _, _, _, _, _, _, _, _, _, _ => none
 | k + 1, x0, x3, x4, x21, x22, x482000, x482001, x482002, x482003, x482004 => if x22 = true then (if 1 ≤ (x0.length : Int) then ((some (x0.drop 1 : List Int)).bind fun y485 => (impl_parseOne.l0 k x4 (([x3 / 16] : List Int)) y485 (y485.length : Int) 0 x482000 x482001 x482002 x482003 x482004)) else (none)) else (if x21 = 8 then (some (7, (⟨#[]⟩ : ByteArray), (wrap32 (x3)) / 32, ((Go.bits .and .u32 x3 16) != 0), 0)) else (if x21 = 6 then (some (8, (⟨#[]⟩ : ByteArray), (wrap32 (x3)) / 32, ((Go.bits .and .u32 x3 16) != 0), 0)) else (if x21 = 2 then (impl_parseOne.j3 k x0 x3 x4 x21 (x21 == 2) x482000 x482001 x482002 x482003 x482004) else (impl_parseOne.j3 k x0 x3 x4 x21 (x21 == 5) x482000 x482001 x482002 x482003 x482004))))
def impl_parseOne.j2 : Nat → Int → List Int → Int → ByteArray → Int → Bool → Int → Option (Int × ByteArray × Int × Bool × Int)
 | 0, _, _, _, _, _, _, _ => none
 | k + 1, x4, x6, x482000, x482001, x482002, x482003, x482004 => (impl_Unpack.f k x6).bind fun bt493 => (if bt493.2 = true then ((impl_nameKind.f k x4).bind fun t495 => (some (t495, bt493.1, 0, false, 0))) else (some (x482000, x482001, x482002, x482003, x482004)))
def impl_parseOne.l0 : Nat → Int → List Int → List Int → Int → Int → Int → ByteArray → Int → Bool → Int → Option (Int × ByteArray × Int × Bool × Int)
 | 0, _, _, _, _, _, _, _, _, _, _ => none
 | k + 1, x4, x6, x33, x34, x35, x482000, x482001, x482002, x482003, x482004 => if x35 < x34 then (if 0 ≤ x35 then (if x35 < (x33.length : Int) then (if (rd x33 x35) = 0 then (impl_parseOne.j2 k x4 x6 x482000 x482001 x482002 x482003 x482004) else (if (Go.bits .and .u32 (rd x33 x35) 15) = 0 then (if x6.length < 35184372088832 then (impl_parseOne.l0 k x4 (x6 ++ [(rd x33 x35) / 16]) x33 x34 (wrap64 (x35 + 1)) x482000 x482001 x482002 x482003 x482004) else (none)) else (impl_parseOne.j2 k x4 x6 x482000 x482001 x482002 x482003 x482004))) else (none)) else (none)) else (impl_parseOne.j2 k x4 x6 x482000 x482001 x482002 x482003 x482004)
def impl_parseOne.j3 : Nat → List Int → Int → Int → Int → Bool → Int → ByteArray → Int → Bool → Int → Option (Int × ByteArray × Int × Bool × Int)
 | 0, _, _, _, _, _, _, _, _, _, _ => none
 | k + 1, x0, x3, x4, x21, x80, x482000, x482001, x482002, x482003, x482004 => if x80 = true then (if (x0.length : Int) < 2 then (some (x482000, x482001, x482002, x482003, x482004)) else (if 1 < (x0.length : Int) then (if x4 = 5 then (impl_parseOne.j4 k x0 x482000 x482001 x482002 x482003 x482004 8 (⟨#[]⟩ : ByteArray) (wrap32 (rd x0 1)) ((Go.bits .and .u32 x3 16) != 0) 0) else (impl_parseOne.j4 k x0 x482000 x482001 x482002 x482003 x482004 7 (⟨#[]⟩ : ByteArray) (wrap32 (rd x0 1)) ((Go.bits .and .u32 x3 16) != 0) 0)) else (none))) else (if x21 = 12 then (if (x0.length : Int) > 1 then ((impl_FieldOk.f k (x3 / 16)).bind fun t503 => (if t503 = true then ((impl_UnpackOne.f k (x3 / 16)).bind fun t504 => (if 1 < (x0.length : Int) then (some (9, t504, wrap32 (rd x0 1), false, 0)) else (none))) else (some (x482000, x482001, x482002, x482003, x482004)))) else (some (x482000, x482001, x482002, x482003, x482004))) else (some (x482000, x482001, x482002, x482003, x482004)))
def impl_parseOne.j4 : Nat → List Int → Int → ByteArray → Int → Bool → Int → Int → ByteArray → Int → Bool → Int → Option (Int × ByteArray × Int × Bool × Int)
 | 0, _, _, _, _, _, _, _, _, _, _, _ => none
 | k + 1, x0, x482000, x482001, x482002, x482003, x482004, x498000, x498001, x498002, x498003, x498004 => (impl_CellsOf.f k x498000 x498001 x498002 x498003 x498004).bind fun t498 => (if 2 ≤ (x0.length : Int) then ((slices_Equal_uint32_uint32.f k t498 (x0.take 2)).bind fun t502 => (if t502 = true then (some (x498000, x498001, x498002, x498003, x498004)) else (some (x482000, x482001, x482002, x482003, x482004)))) else (none))
end
def impl_parseOne.f (k : Nat) (l0 : List Int) : Option (Int × ByteArray × Int × Bool × Int) := if 0 < (l0.length : Int) then (if (Go.bits .and .u32 (rd l0 0) 15) = 1 then (impl_parseOne.j0 k l0 (rd l0 0) (Go.bits .and .u32 (rd l0 0) 15) (Go.bits .and .u32 (rd l0 0) 15) ((Go.bits .and .u32 (rd l0 0) 15) == 1) 0 (⟨#[]⟩ : ByteArray) 0 false (rd l0 0)) else (if (Go.bits .and .u32 (rd l0 0) 15) = 3 then (impl_parseOne.j0 k l0 (rd l0 0) (Go.bits .and .u32 (rd l0 0) 15) (Go.bits .and .u32 (rd l0 0) 15) ((Go.bits .and .u32 (rd l0 0) 15) == 3) 0 (⟨#[]⟩ : ByteArray) 0 false (rd l0 0)) else (if (Go.bits .and .u32 (rd l0 0) 15) = 4 then (impl_parseOne.j0 k l0 (rd l0 0) (Go.bits .and .u32 (rd l0 0) 15) (Go.bits .and .u32 (rd l0 0) 15) ((Go.bits .and .u32 (rd l0 0) 15) == 4) 0 (⟨#[]⟩ : ByteArray) 0 false (rd l0 0)) else (if (Go.bits .and .u32 (rd l0 0) 15) = 9 then (impl_parseOne.j0 k l0 (rd l0 0) (Go.bits .and .u32 (rd l0 0) 15) (Go.bits .and .u32 (rd l0 0) 15) ((Go.bits .and .u32 (rd l0 0) 15) == 9) 0 (⟨#[]⟩ : ByteArray) 0 false (rd l0 0)) else (if (Go.bits .and .u32 (rd l0 0) 15) = 10 then (impl_parseOne.j0 k l0 (rd l0 0) (Go.bits .and .u32 (rd l0 0) 15) (Go.bits .and .u32 (rd l0 0) 15) ((Go.bits .and .u32 (rd l0 0) 15) == 10) 0 (⟨#[]⟩ : ByteArray) 0 false (rd l0 0)) else (impl_parseOne.j0 k l0 (rd l0 0) (Go.bits .and .u32 (rd l0 0) 15) (Go.bits .and .u32 (rd l0 0) 15) ((Go.bits .and .u32 (rd l0 0) 15) == 11) 0 (⟨#[]⟩ : ByteArray) 0 false (rd l0 0))))))) else (none)
def impl_parseOne.T1 : Bool × List (List Nat × List Nat) := (true, [([], []), ([0], [0]), ([1], [1]), ([], []), ([3], [3]), ([4], [4]), ([5], [5]), ([2, 0, 1, 2], [2]), ([6, 7, 0, 1, 2, 3, 4, 5, 6, 7], [6])])
def impl_parseOne.B1 : List Nat := [0, 1, 3, 0, 8, 24, 56, 7, 255]
theorem impl_parseOne.tab1 : rtab .any (opsOf Tryz.f42 1) = impl_parseOne.T1 := Z0
theorem impl_parseOne.bits1 : waitsOk impl_parseOne.T1.2 impl_parseOne.B1 = true := Z0
def impl_parseOne.T34 : Bool × List (List Nat × List Nat) := (true, [([], []), ([0], [0]), ([1], [1]), ([], []), ([3], [3]), ([4], [4]), ([5], [5]), ([2, 6], [2, 6]), ([7, 2, 0, 1, 2, 3, 4, 5, 6, 7], [7])])
def impl_parseOne.B34 : List Nat := [0, 1, 3, 0, 8, 24, 56, 127, 255]
theorem impl_parseOne.tab34 : rtab .any (opsOf Tryz.f42 34) = impl_parseOne.T34 := Z0
theorem impl_parseOne.bits34 : waitsOk impl_parseOne.T34.2 impl_parseOne.B34 = true := Z0
theorem impl_parseOne.calls (k : Nat) (A0 : Option Addr) (c0 : Nat) (l0 : List Int) (r1 : Int) (r2 : ByteArray) (r3 : Int) (r4 : Bool) (r5 : Int) (w : World) (hr0 : Kd.C (Kd.int .u32) w A0 l0.length l0) (hc0 : l0.length ≤ c0) (h : impl_parseOne.f k l0 = some (r1, r2, r3, r4, r5)) :
  Calls Tryz.prog 42 #[.slice A0 l0.length c0] w fun e w' => e = .returned (.agg #[.int .i64 r1, .string r2, .int .i32 r3, .bool r4, .int .u32 r5]) ∧ Below w.heap.size w w' := by
 have hu46 := Tryz.underlying46; have HR0 := Aside0.mk hr0; have HC0 := Aside0.mk hc0; clear hr0 hc0; have HB := Z (Below.refl w.heap.size w); unfold impl_parseOne.f at h; have H := h; clear h; replace H := Yg H; obtain ⟨c2, H⟩ := H; have c2b0 := decide_eq_true c2; have c2b1 : decide (0 < l0.length) = true := decide_eq_true (by omega); clear c2; have HC3 := Aside0.mk H; clear H; go_enter Tryz.func42, Tryz.ntmps42
 try go_wp2_with (first | ((with_reducible refine gate_dst (N := 2) rfl ?_); refine box_event (by rfl) (N := 2) (by rfl) (cs := #[.int .i64 0, .string (⟨#[]⟩ : ByteArray), .int .i32 0, .bool false, .int .u32 0]) (t := 46) Z7 ?_; intro gb478 hg w4 hbox hb; have BK478 := Z (hbox); have GW478 := Z ((Z99 : w.heap.size ≤ gb478)); have GE478 := Z ((Z99 : w.heap.size ≤ gb478)); replace HB := Z (below_step Z75 hb); clear hb hbox hg))
 have n0_ := Z (blk_drew BK478.out); have n1_ := Z (below_drew1 HB.out); clear BK478; clear HB; have BK478 := n0_; have HB := n1_; clear n0_ n1_; have p479 : 0 ≤ (0 : Int) := (by omega); have q479 : 0 < (l0.length : Int) := of_decide_eq_true Z5; obtain ⟨ad479, e479, hx479_0⟩ := Kd.at_int HR0.out 0 p479 q479; have hw479_0 := hx479_0
 (try rw [show ((0 : Int)).toNat = 0 from rfl] at hw479_0)
 (try rw [show 0 * 1 = 0 from rfl] at hw479_0)
 (try rw [Addr.add_zero'] at hw479_0)
 cases e479
 have qi479 : (0 < l0.length) = True := eq_true (by omega)
 (try rw [show ((0 : Int)).toNat = 0 from rfl] at hx479_0)
 (try rw [Addr.add_zero'] at hx479_0)
 replace hx479_0 := Yh HB.out hx479_0; replace p479 := eq_true p479; replace q479 := eq_true q479; have p480 : 0 ≤ (0 : Int) := (by omega); have q480 : 0 < (l0.length : Int) := of_decide_eq_true Z5; obtain ⟨ad480, e480, hx480_0⟩ := Kd.at_int HR0.out 0 p480 q480; have hw480_0 := hx480_0
 (try rw [show ((0 : Int)).toNat = 0 from rfl] at hw480_0)
 (try rw [show 0 * 1 = 0 from rfl] at hw480_0)
 (try rw [Addr.add_zero'] at hw480_0)
 obtain rfl : ad479 = ad480 := (by injection e480); have qi480 : (0 < l0.length) = True := eq_true (by omega)
 (try rw [show ((0 : Int)).toNat = 0 from rfl] at hx480_0)
 (try rw [Addr.add_zero'] at hx480_0)
 replace hx480_0 := Yh HB.out hx480_0; replace p480 := eq_true p480; replace q480 := eq_true q480; refine start_ (n := 9) (S := fun w' => w'.cell? ad479 = some (.int .u32 (rd l0 0)) ∧ w'.cell? ad479 = some (.int .u32 (rd l0 0))) (ds := []) #[false, false, false, false, false, false, false, false, false] Z0 rfl rfl ⟨((HB.out.cell (World.block_lt_of_cell? w _ hw479_0)).trans hw479_0), ((HB.out.cell (World.block_lt_of_cell? w _ hw480_0)).trans hw480_0)⟩ (fun hHeld => ?_); refine with_tabW impl_parseOne.tab1 impl_parseOne.bits1 (fun HT_ HW_ => ?_)
 generalize w4.drew = w5 at BK478 HB hx479_0 hx480_0 hHeld ⊢; refine pure_ (i := 0) (N := some 12) (v := ?_) (a' := ?_) #[true, false, false, false, false, false, false, false, false] rfl rfl (any_of HT_.out Z0) (fun _ _ _ h => h) (Or.inl ⟨by rfl, ?_⟩) ?_ ?_
 rotate_left
 ·intro w'
  go_simp
  with_reducible rfl
 rotate_left
 ·simp only [Act.put, List.setIfInBounds_toArray, List.set_cons_zero, List.set_cons_succ, i64_w, i32_w]
  rfl
 refine pure_ (i := 1) (N := some 13) (v := ?_) (a' := ?_) #[true, true, false, false, false, false, false, false, false] rfl rfl (any_of HT_.out Z0) (fun _ _ _ h => h) (Or.inl ⟨by rfl, ?_⟩) ?_ ?_
 rotate_left
 ·intro w'
  go_simp
  with_reducible rfl
 rotate_left
 ·simp only [Act.put, List.setIfInBounds_toArray, List.set_cons_zero, List.set_cons_succ, i64_w, i32_w]
  rfl
 refine pure_ (i := 3) (N := some 15) (v := ?_) (a' := ?_) #[true, true, false, true, false, false, false, false, false] rfl rfl (any_of HT_.out Z0) (fun _ _ _ h => h) (Or.inl ⟨by rfl, ?_⟩) ?_ ?_
 rotate_left
 ·intro w'
  go_simp
  with_reducible rfl
 rotate_left
 ·simp only [Act.put, List.setIfInBounds_toArray, List.set_cons_zero, List.set_cons_succ, i64_w, i32_w]
  rfl
 refine pure_ (i := 4) (N := some 16) (v := ?_) (a' := ?_) #[true, true, false, true, true, false, false, false, false] rfl rfl (any_of HT_.out Z0) (fun _ _ _ h => h) (Or.inl ⟨by rfl, ?_⟩) ?_ ?_
 rotate_left
 ·intro w'
  go_simp
  with_reducible rfl
 rotate_left
 ·simp only [Act.put, List.setIfInBounds_toArray, List.set_cons_zero, List.set_cons_succ, i64_w, i32_w]
  rfl
 refine take_ (i := 2) (N := some 14) (v := ?_) (a' := ?_) #[true, true, true, true, true, false, false, false, false] rfl rfl (take_ofW HT_.out HW_.out Z0) (fun _ _ _ h => h) (Or.inl ⟨by rfl, ?_⟩) hHeld ?_ ?_
 rotate_left
 ·rintro w' ⟨s0, s1⟩
  go_simp
  with_reducible rfl
 rotate_left
 ·simp only [Act.put, List.setIfInBounds_toArray, List.set_cons_zero, List.set_cons_succ, i64_w, i32_w]
  rfl
 refine pure_ (i := 7) (N := some 3) (v := ?_) (a' := ?_) #[true, true, true, true, true, false, false, true, false] rfl rfl (any_of HT_.out Z0) (fun _ _ _ h => h) (Or.inl ⟨by rfl, ?_⟩) ?_ ?_
 rotate_left
 ·intro w'
  go_simp
  with_reducible rfl
 rotate_left
 ·simp only [Act.put, List.setIfInBounds_toArray, List.set_cons_zero, List.set_cons_succ, i64_w, i32_w]
  rfl
 refine take_ (i := 5) (N := some 17) (v := ?_) (a' := ?_) #[true, true, true, true, true, true, false, true, false] rfl rfl (take_ofW HT_.out HW_.out Z0) (fun _ _ _ h => h) (Or.inl ⟨by rfl, ?_⟩) hHeld ?_ ?_
 rotate_left
 ·rintro w' ⟨s0, s1⟩
  go_simp
  with_reducible rfl
 rotate_left
 ·simp only [Act.put, List.setIfInBounds_toArray, List.set_cons_zero, List.set_cons_succ, i64_w, i32_w]
  rfl
 refine pure_ (i := 6) (N := some 18) (v := ?_) (a' := ?_) #[true, true, true, true, true, true, true, true, false] rfl rfl (any_of HT_.out Z0) (fun _ _ _ h => h) (Or.inl ⟨by rfl, ?_⟩) ?_ ?_
 rotate_left
 ·intro w'
  go_simp
  with_reducible rfl
 rotate_left
 ·simp only [Act.put, List.setIfInBounds_toArray, List.set_cons_zero, List.set_cons_succ, i64_w, i32_w]
  rfl
 refine pure_ (i := 8) (N := some 4) (v := ?_) (a' := ?_) #[true, true, true, true, true, true, true, true, true] rfl rfl (any_of HT_.out Z0) (fun _ _ _ h => h) (Or.inl ⟨by rfl, ?_⟩) ?_ ?_
 rotate_left
 ·intro w'
  go_simp
  with_reducible rfl
 rotate_left
 ·simp only [Act.put, List.setIfInBounds_toArray, List.set_cons_zero, List.set_cons_succ, i64_w, i32_w]
  rfl
 refine done_ (done_of HT_.out Z0) ?_
 go_upto_if 22 with (first | ((with_reducible refine gate_dst (N := 5) rfl ?_); refine box_event (by rfl) (N := 5) (by rfl) (cs := #[.int .i64 0, .string (⟨#[]⟩ : ByteArray), .int .i32 0, .bool false, .int .u32 0]) (t := 46) Z7 ?_; intro gb481 hg w6 hbox hb; have BK481 := Z (hbox); have GW481 := Z ((Z99 : w.heap.size ≤ gb481)); have GE481 := Z ((Z99 : w.heap.size ≤ gb481)); replace HB := Z (below_step Z75 hb); have NB478_481 := Z ((Z81 : gb478 ≠ gb481)); have NB481_478 := Z ((Z82 : gb481 ≠ gb478)); replace BK478 := Z (Yk BK478 hb); clear hb hbox hg; have hnb7 := NB481_478.out; have hnc7 := NB478_481.out; have hcz8 := Yb5 BK481.out))
 (try simp only [Act.put, List.setIfInBounds_toArray, List.set_cons_zero, List.set_cons_succ])
 go_cut [22] (fun v22 wc => ∃ (kq : Nat) (x22_2 : Bool), v22 = .bool x22_2 ∧ Aside0 (impl_parseOne.j0 kq l0 (rd l0 0) (Go.bits .and .u32 (rd l0 0) 15) (Go.bits .and .u32 (rd l0 0) 15) x22_2 0 (⟨#[]⟩ : ByteArray) 0 false (rd l0 0) = some (r1, r2, r3, r4, r5)) ∧ Aside0 (kq ≤ k) ∧ Aside0 (wc.heap[gb478]? = some (.cells #[.int .i64 0, .string (⟨#[]⟩ : ByteArray), .int .i32 0, .bool false, .int .u32 0] 46 (0, 0))) ∧ Aside0 (wc.heap[gb481]? = some (.cells #[.int .i64 0, .string (⟨#[]⟩ : ByteArray), .int .i32 0, .bool false, .int .u32 (rd l0 0)] 46 (0, 0))) ∧ Aside0 (Below w.heap.size w wc))
 case first =>
  have H := HC3.out; clear HC3; replace H := Yi H; rcases H with ⟨c9, H⟩ | ⟨c9, H⟩
  ·obtain ⟨c9b0, c9b1⟩ := Ye c9; clear c9
   (first | rw [c9b0] | (simp only [i64_w, i32_w]; rw [c9b0]) | skip)
   have H' := Aside0.mk H; clear H
   go_wp2
   go_meet
   case rel => exact ⟨_, (((Go.bits .and .u32 (rd l0 0) 15) == 1)), Z2, H', ⟨Z14⟩, ⟨(Z30 BK478)⟩, ⟨(Z31 BK481)⟩, ⟨Z75⟩⟩
  obtain ⟨c9b0, c9b1⟩ := Yn c9
  (first | rw [c9b0] | (simp only [i64_w, i32_w]; rw [c9b0]) | skip)
  replace H := Yi H; rcases H with ⟨c10, H⟩ | ⟨c10, H⟩
  ·obtain ⟨c10b0, c10b1⟩ := Ye c10; clear c10; have H' := Aside0.mk H; clear H
   go_wp2
   go_meet
   case rel => exact ⟨_, (((Go.bits .and .u32 (rd l0 0) 15) == 3)), Z2, H', ⟨Z14⟩, ⟨(Z30 BK478)⟩, ⟨(Z31 BK481)⟩, ⟨Z75⟩⟩
  obtain ⟨c10b0, c10b1⟩ := Yn c10; replace H := Yi H; rcases H with ⟨c11, H⟩ | ⟨c11, H⟩
  ·obtain ⟨c11b0, c11b1⟩ := Ye c11; clear c11; have H' := Aside0.mk H; clear H
   go_wp2
   go_meet
   case rel => exact ⟨_, (((Go.bits .and .u32 (rd l0 0) 15) == 4)), Z2, H', ⟨Z14⟩, ⟨(Z30 BK478)⟩, ⟨(Z31 BK481)⟩, ⟨Z75⟩⟩
  obtain ⟨c11b0, c11b1⟩ := Yn c11; replace H := Yi H; rcases H with ⟨c12, H⟩ | ⟨c12, H⟩
  ·obtain ⟨c12b0, c12b1⟩ := Ye c12; clear c12; have H' := Aside0.mk H; clear H
   go_wp2
   go_meet
   case rel => exact ⟨_, (((Go.bits .and .u32 (rd l0 0) 15) == 9)), Z2, H', ⟨Z14⟩, ⟨(Z30 BK478)⟩, ⟨(Z31 BK481)⟩, ⟨Z75⟩⟩
  obtain ⟨c12b0, c12b1⟩ := Yn c12; replace H := Yi H; rcases H with ⟨c13, H⟩ | ⟨c13, H⟩
  ·obtain ⟨c13b0, c13b1⟩ := Ye c13; clear c13; have H' := Aside0.mk H; clear H
   go_wp2
   go_meet
   case rel => exact ⟨_, (((Go.bits .and .u32 (rd l0 0) 15) == 10)), Z2, H', ⟨Z14⟩, ⟨(Z30 BK478)⟩, ⟨(Z31 BK481)⟩, ⟨Z75⟩⟩
  obtain ⟨c13b0, c13b1⟩ := Yn c13; have H' := Aside0.mk H; clear H
  go_wp2
  go_meet
  case rel => exact ⟨_, (((Go.bits .and .u32 (rd l0 0) 15) == 11)), Z2, H', ⟨Z14⟩, ⟨(Z30 BK478)⟩, ⟨(Z31 BK481)⟩, ⟨Z75⟩⟩
 case rest =>
  clear HC3; (try clear c1); (try clear c2); (try clear c2b0); (try clear c2b1); (try clear p2); (try clear c4); (try clear p4); (try clear q4); (try clear hx4); (try clear qi4); (try clear c7); (try clear c9); (try clear c9b0); (try clear c9b1); (try clear c10); (try clear c10b0); (try clear c10b1); (try clear c11); (try clear c11b0); (try clear c11b1); (try clear c12); (try clear c12b0); (try clear c12b1); (try clear c13); (try clear c13b0); (try clear c13b1); (try clear hcz8); (try clear hx479_0); (try clear hx480_0); (try clear p479); (try clear p480); (try clear q479); (try clear q480); obtain ⟨kq, x22_2, rfl, HA, HJ2, BK478, BK481, HB⟩ := hcut
  cases kq with
  | zero => exact absurd HA.out (by simp [impl_parseOne.j0])
  | succ kj2 =>
   have H := HA.out; clear HA; simp only [impl_parseOne.j0] at H; by_cases c14 : x22_2 = true
   ·subst c14; replace H := Yt H; obtain ⟨y482, hy482⟩ : ∃ y_ : List Int, y_ = (([(rd l0 0) / 16] : List Int)) := ⟨_, rfl⟩; replace H : (if 1 ≤ (l0.length : Int) then ((some (l0.drop 1 : List Int)).bind fun y485 => (impl_parseOne.l0 kj2 (Go.bits .and .u32 (rd l0 0) 15) y482 y485 (y485.length : Int) 0 0 (⟨#[]⟩ : ByteArray) 0 false (rd l0 0))) else (none)) = some (r1, r2, r3, r4, r5) := Yy hy482 H; have Ny482 := Aside0.mk hy482; clear hy482; replace H := Yg H; obtain ⟨c15, H⟩ := H; have c15b0 := eq_true c15; have c15b1 := decide_eq_true c15; clear c15; obtain ⟨y485, hy485⟩ : ∃ y_ : List Int, y_ = (l0.drop 1) := ⟨_, rfl⟩; replace H : (impl_parseOne.l0 kj2 (Go.bits .and .u32 (rd l0 0) 15) y482 y485 (y485.length : Int) 0 0 (⟨#[]⟩ : ByteArray) 0 false (rd l0 0)) = some (r1, r2, r3, r4, r5) := Yy hy485 H; have Ny485 := Aside0.mk hy485; clear hy485; have HC16 := Aside0.mk H; clear H
    go_upto_block 1 with (first | ((with_reducible refine gate_dst (N := 31) rfl ?_); refine Kd.R_lit (Kd.int .u32) _ 44 (by rfl) (N := 31) (by rfl) (xs := ([(rd l0 0) / 16] : List Int)) (inner := [.int .u32 ((rd l0 0) / 16)]) (ok := fun _ => True) (okp := fun _ => True) Z7 (Reps.one (show Kd.M (Kd.int .u32) _ _ _ ((rd l0 0) / 16) [.int .u32 ((rd l0 0) / 16)] from rfl) (Reps.none _ _)) (fun _ hk => hk) trivial (Below.refl _ _) (Nat.le_refl _) (by simp) ?_; intro v483 w17 ho18 hb hg_ hnew_; clear hg_ hnew_; (first | rw [← Ny482.out] at ho18 | (simp only [Int.reduceToNat] at ho18; rw [← Ny482.out] at ho18)); have HO484 := Z (Kd.R_lower ho18 (below_size Z75)); replace BK478 := Z (Yk BK478 hb); replace BK481 := Z (Yk BK481 hb); replace HB := Z (below_step Z75 hb); clear hb ho18; have q19 : (1 : Int) ≤ ((l0.length : Int) : Int) := of_decide_eq_true Z5; obtain ⟨i019, hi019, _, hsz19, _⟩ := info_parts info44; have hroom19 : l0.length ≤ c0 := HC0.out; have hC19 : Kd.C (Kd.int .u32) _ (some ad479) l0.length l0 := HR0.out; have hcut19 := cut_from (P := Tryz.prog) 24 44 .i64 Tryz.underlying24 hi019 1 hsz19 (some ad479) l0.length c0 1 (by omega) q19; have hr19 := Kd.C_drop (m := (1 : Int).toNat) (c := c0) hC19 (by omega) hroom19; obtain ⟨A19, hA19⟩ : ∃ A1, A1 = (if c0 = (1 : Int).toNat then (some ad479) else ((some ad479) : Option Addr).map (·.add ((1 : Int).toNat * 1))) := ⟨_, rfl⟩; obtain ⟨c19, hc19⟩ : ∃ c1, c1 = c0 - (1 : Int).toNat := ⟨_, rfl⟩; have hy19 : y485.length = l0.length - (1 : Int).toNat := (by rw [Ny485.out, List.length_drop] <;> omega); rw [show (l0).drop (1 : Int).toNat = y485 from Ny485.out.symm] at hr19; replace hr19 : Kd.C (Kd.int .u32) _ A19 y485.length y485 := (by rw [hA19]; exact hr19); rw [← hy19, ← hA19, ← hc19] at hcut19; have HR488 := Aside0.mk hr19; have HC488 := Z (show y485.length ≤ c19 from Z32); clear hr19 hC19 hroom19 hi019 hsz19 hc19; have KY19 := Aside0.mk hy19; have KA19 := Aside0.mk hA19; clear hy19 hA19; replace q19 := eq_true q19))
    (try simp only [Act.put, List.setIfInBounds_toArray, List.set_cons_zero, List.set_cons_succ])
    go_cut [6] (fun v6 wc => ∃ (kq : Nat) (x6_15 : List Int), Aside0 (impl_parseOne.j2 kq (Go.bits .and .u32 (rd l0 0) 15) x6_15 0 (⟨#[]⟩ : ByteArray) 0 false (rd l0 0) = some (r1, r2, r3, r4, r5)) ∧ Aside0 (kq ≤ kj2) ∧ Aside0 (Kd.R (Kd.int .u32) 44 wc w.heap.size (fun _ => True) v6 x6_15) ∧ Aside0 (wc.heap[gb478]? = some (.cells #[.int .i64 0, .string (⟨#[]⟩ : ByteArray), .int .i32 0, .bool false, .int .u32 0] 46 (0, 0))) ∧ Aside0 (wc.heap[gb481]? = some (.cells #[.int .i64 0, .string (⟨#[]⟩ : ByteArray), .int .i32 0, .bool false, .int .u32 (rd l0 0)] 46 (0, 0))) ∧ Aside0 (Below w.heap.size w wc))
    case first =>
     have H := HC16.out; clear HC16; have H' := Aside0.mk H; clear H
     go_wp2
     go_loopg [6, 35] kj2 (fun kq v6 v35 w' => ∃ (x6_2 : List Int) (x35_2 : Int), v35 = .int .i64 x35_2 ∧ Aside0 (impl_parseOne.l0 kq (Go.bits .and .u32 (rd l0 0) 15) x6_2 y485 (y485.length : Int) x35_2 0 (⟨#[]⟩ : ByteArray) 0 false (rd l0 0) = some (r1, r2, r3, r4, r5)) ∧ Aside0 (kq ≤ kj2) ∧ Aside0 (Kd.R (Kd.int .u32) 44 w' w.heap.size (fun _ => True) v6 x6_2) ∧ Aside0 (w'.heap[gb478]? = some (.cells #[.int .i64 0, .string (⟨#[]⟩ : ByteArray), .int .i32 0, .bool false, .int .u32 0] 46 (0, 0))) ∧ Aside0 (w'.heap[gb481]? = some (.cells #[.int .i64 0, .string (⟨#[]⟩ : ByteArray), .int .i32 0, .bool false, .int .u32 (rd l0 0)] 46 (0, 0))) ∧ Aside0 (Below w.heap.size w w'))
     case atStart => exact ⟨(y482), (0), Z2, H', ⟨Nat.le_refl _⟩, ⟨(Z11 HO484)⟩, ⟨(Z8 BK478)⟩, ⟨(Z8 BK481)⟩, ⟨Z75⟩⟩
     case round =>
      clear H'; (try clear c1); (try clear q1); (try clear c2); (try clear c2b0); (try clear c2b1); (try clear p2); (try clear c4); (try clear p4); (try clear q4); (try clear hx4); (try clear qi4); (try clear c7); (try clear c9); (try clear c9b0); (try clear c9b1); (try clear c10); (try clear c10b0); (try clear c10b1); (try clear c11); (try clear c11b0); (try clear c11b1); (try clear c12); (try clear c12b0); (try clear c12b1); (try clear c13); (try clear c13b0); (try clear c13b1); (try clear c14); (try clear c15); (try clear c15b0); (try clear c15b1); (try clear c19); (try clear q19); (try clear hcz8); (try clear hx479_0); (try clear hx480_0); (try clear p2); (try clear p4); (try clear p479); (try clear p480); (try clear q19); (try clear q4); (try clear q479); (try clear q480); obtain ⟨x6_2, x35_2, rfl, HA, HK2, HO_6, BK478, BK481, HB⟩ := hrel
      cases gk with
      | zero => exact absurd HA.out (by simp [impl_parseOne.l0])
      | succ k2 =>
       have H := HA.out; clear HA; simp only [impl_parseOne.l0] at H; replace H := Yi H; rcases H with ⟨c20, H⟩ | ⟨c20, H⟩
       ·have c20b0 := decide_eq_true c20; clear c20
        (first | rw [c20b0] | (simp only [i64_w, i32_w]; rw [c20b0]) | skip)
        replace H := Yg H; obtain ⟨c21, H⟩ := H; have c21b0 := decide_eq_true c21; clear c21; replace H := Yg H; obtain ⟨c22, H⟩ := H; have c22b0 := decide_eq_true c22; clear c22; replace H := Yi H; rcases H with ⟨c23, H⟩ | ⟨c23, H⟩
        ·obtain ⟨c23b0, c23b1⟩ := Ye c23; clear c23; have H' := Aside0.mk H; clear H; have p489 : 0 ≤ (x35_2 : Int) := of_decide_eq_true Z5; have q489 : x35_2 < (y485.length : Int) := of_decide_eq_true Z5; obtain ⟨ad489, e489, hx489_0⟩ := Kd.at_int HR488.out x35_2 p489 q489
         cases e489
         replace hx489_0 := Yh HB.out hx489_0; replace p489 := eq_true p489; replace q489 := eq_true q489
         go_wp2
         go_meet
         case rel => exact ⟨_, (x6_2), H', ⟨Z33⟩, ⟨(Z11 HO_6)⟩, ⟨(Z8 BK478)⟩, ⟨(Z8 BK481)⟩, ⟨Z75⟩⟩
        obtain ⟨c23b0, c23b1⟩ := Yn c23; replace H := Yi H; rcases H with ⟨c24, H⟩ | ⟨c24, H⟩
        ·obtain ⟨c24b0, c24b1⟩ := Ye c24; clear c24; replace H := Yg H; obtain ⟨c25, H⟩ := H; have LMc25 := Aside0.mk c25; clear c25; obtain ⟨y490, hy490⟩ : ∃ y_ : List Int, y_ = (x6_2 ++ [(rd y485 x35_2) / 16]) := ⟨_, rfl⟩; replace H : (impl_parseOne.l0 k2 (Go.bits .and .u32 (rd l0 0) 15) y490 y485 (y485.length : Int) (wrap64 (x35_2 + 1)) 0 (⟨#[]⟩ : ByteArray) 0 false (rd l0 0)) = some (r1, r2, r3, r4, r5) := Yy hy490 H; have Ny490 := Aside0.mk hy490; clear hy490; have H' := Aside0.mk H; clear H; have p489 : 0 ≤ (x35_2 : Int) := of_decide_eq_true Z5; have q489 : x35_2 < (y485.length : Int) := of_decide_eq_true Z5; obtain ⟨ad489, e489, hx489_0⟩ := Kd.at_int HR488.out x35_2 p489 q489
         cases e489
         replace hx489_0 := Yh HB.out hx489_0; replace p489 := eq_true p489; replace q489 := eq_true q489
         go_wp2_with (first | ((with_reducible refine gate_builtin (b := .append) (xs := #[.tmp 46, .tmp 49]) rfl ?_); at_builtin; refine Kd.R_append (Kd.int .u32) (w0 := w) w.heap.size rfl (.tmp 46) (.tmp 49) 24 44 (.int .u32 0) 4 rfl Tryz.underlying24 info44 rfl (by decide) (by omega) u6 x6_2 ((rd y485 x35_2) / 16) [.int .u32 ((rd y485 x35_2) / 16)] (fun _ => True) (fun _ => False) rfl rfl ?aP (fun _ hk => hk.elim) ?aF ?aO ?aB ?aS ?aL ?_; (case aP => exact rfl); (case aB => exact Z75); (case aF => exact (fun _ _ => trivial)); (case aO => exact (Z11 HO_6)); (case aS => exact (below_size Z75)); (case aL => have := LMc25.out; omega); intro v491 w26 ho hb hg hat; rw [← Ny490.out] at ho; replace BK478 := Z (blk_grown (g := gb478) (o := .cells #[.int .i64 0, .string (⟨#[]⟩ : ByteArray), .int .i32 0, .bool false, .int .u32 0] 46 (0, 0)) (Z8 BK478) hg (Kd.R_ne HO_6.out BK478.out (by decide))); replace BK481 := Z (blk_grown (g := gb481) (o := .cells #[.int .i64 0, .string (⟨#[]⟩ : ByteArray), .int .i32 0, .bool false, .int .u32 (rd l0 0)] 46 (0, 0)) (Z8 BK481) hg (Kd.R_ne HO_6.out BK481.out (by decide))); replace HB := Z (hb); have HO492 := Z (ho); clear HO_6; clear ho hb hg hat))
         go_roundg k2
         case measure => have := HJ2.out; have := HK2.out; omega
         case rel => exact ⟨(y490), (wrap64 (x35_2 + 1)), Z2, H', ⟨by have := HJ2.out; have := HK2.out; omega⟩, ⟨(Z11 HO492)⟩, ⟨(Z8 BK478)⟩, ⟨(Z8 BK481)⟩, ⟨Z75⟩⟩
        obtain ⟨c24b0, c24b1⟩ := Yn c24; have H' := Aside0.mk H; clear H; have p489 : 0 ≤ (x35_2 : Int) := of_decide_eq_true Z5; have q489 : x35_2 < (y485.length : Int) := of_decide_eq_true Z5; obtain ⟨ad489, e489, hx489_0⟩ := Kd.at_int HR488.out x35_2 p489 q489
        cases e489
        replace hx489_0 := Yh HB.out hx489_0; replace p489 := eq_true p489; replace q489 := eq_true q489
        go_wp2
        go_meet
        case rel => exact ⟨_, (x6_2), H', ⟨Z33⟩, ⟨(Z11 HO_6)⟩, ⟨(Z8 BK478)⟩, ⟨(Z8 BK481)⟩, ⟨Z75⟩⟩
       have c20b0 := decide_eq_false c20; clear c20
       (first | rw [c20b0] | (simp only [i64_w, i32_w]; rw [c20b0]) | skip)
       have H' := Aside0.mk H; clear H
       go_wp2
       go_meet
       case rel => exact ⟨_, (x6_2), H', ⟨Z33⟩, ⟨(Z11 HO_6)⟩, ⟨(Z8 BK478)⟩, ⟨(Z8 BK481)⟩, ⟨Z75⟩⟩
    case rest =>
     clear HC16; (try clear c1); (try clear q1); (try clear c2); (try clear c2b0); (try clear c2b1); (try clear p2); (try clear c4); (try clear p4); (try clear q4); (try clear hx4); (try clear qi4); (try clear p6); (try clear c7); (try clear c9); (try clear c9b0); (try clear c9b1); (try clear c10); (try clear c10b0); (try clear c10b1); (try clear c11); (try clear c11b0); (try clear c11b1); (try clear c12); (try clear c12b0); (try clear c12b1); (try clear c13); (try clear c13b0); (try clear c13b1); (try clear c14); (try clear c15); (try clear c15b0); (try clear c15b1); (try clear c19); (try clear q19); (try clear c20); (try clear c20b0); (try clear c21); (try clear c21b0); (try clear c22); (try clear c22b0); (try clear c23); (try clear c23b0); (try clear c23b1); (try clear c24); (try clear c24b0); (try clear c24b1); (try clear c25); (try clear hcz8); (try clear hx479_0); (try clear hx480_0); (try clear hx489_0); (try clear p2); (try clear p4); (try clear p479); (try clear p480); (try clear p489); (try clear q1); (try clear q19); (try clear q4); (try clear q479); (try clear q480); (try clear q489); obtain ⟨kq, x6_15, HA, HJ15, HO_6, BK478, BK481, HB⟩ := hcut
     cases kq with
     | zero => exact absurd HA.out (by simp [impl_parseOne.j2])
     | succ kj15 =>
      have H := HA.out; clear HA; simp only [impl_parseOne.j2] at H; replace H := Yd H; obtain ⟨⟨t493, t494⟩, A27, H⟩ := H; (try dsimp only at H); by_cases c28 : t494 = true
      ·subst c28; replace H := Yt H; replace H := Yd H; obtain ⟨t495, A29, H⟩ := H; (try dsimp only at H); simp only [Option.some.injEq, Prod.mk.injEq] at H; obtain ⟨rfl, rfl, rfl, rfl, rfl⟩ := H; obtain ⟨Ao30, co30, eo30⟩ := Kd.R_slice HO_6.out; subst eo30
       go_wp2_with (first | ((with_reducible refine gate_callee (f := 71) rfl ?_); refine goesL_ (some 54) rfl rfl Tryz.func71 Z0 rfl #[.slice Ao30 x6_15.length co30] rfl Z10 ?_; (with_reducible refine (impl_Unpack.calls kj15 _ _ x6_15 t493 true _ ?side1 ?side2 A27.out).mono ?_); (case side1 => exact (Z16 HO_6)); (case side2 => exact (Kd.R_reads' HO_6.out).2.1); rintro e w31 ⟨rfl, hb⟩; refine ⟨_, rfl, ?_⟩; replace HO_6 := Z (Kd.R_below (Z11 HO_6) hb); replace BK478 := Z (Yk BK478 hb); replace BK481 := Z (Yk BK481 hb); replace HB := Z (below_step Z75 hb); (try clear hb); (try clear hb2); (try clear hk); (try clear hi)) | ((with_reducible refine gate_callee (f := 72) rfl ?_); refine goesL_ (some 59) rfl rfl Tryz.func72 Z0 rfl #[.int .u32 (Go.bits .and .u32 (rd l0 0) 15)] rfl Z10 ?_; (with_reducible refine (impl_nameKind.calls kj15 (Go.bits .and .u32 (rd l0 0) 15) t495 _ A29.out).mono ?_); rintro e w' ⟨rfl, ⟨nd, rfl⟩⟩; refine ⟨_, rfl, ?_⟩; (try (rw [drewN_self w31]; generalize hq_ : World.drewN w31 _ = w31; have n0_ : Aside0 (Kd.R (Kd.int .u32) 44 w31 w.heap.size (fun _ => True) (.slice Ao30 x6_15.length co30) x6_15) := ⟨by rw [← hq_]; exact (Z11 HO_6)⟩; have n1_ : Aside0 (w31.heap[gb478]? = some (.cells #[.int .i64 0, .string (⟨#[]⟩ : ByteArray), .int .i32 0, .bool false, .int .u32 0] 46 (0, 0))) := ⟨by rw [← hq_]; exact (Z8 BK478)⟩; have n2_ : Aside0 (w31.heap[gb481]? = some (.cells #[.int .i64 0, .string (⟨#[]⟩ : ByteArray), .int .i32 0, .bool false, .int .u32 (rd l0 0)] 46 (0, 0))) := ⟨by rw [← hq_]; exact (Z8 BK481)⟩; have n3_ : Aside0 (Below w.heap.size w w31) := ⟨by rw [← hq_]; exact Z75⟩; clear HO_6 BK478 BK481 HB hq_; have HO_6 := n0_; have BK478 := n1_; have BK481 := n2_; have HB := n3_; clear n0_ n1_ n2_ n3_)); have hnb32 := NB481_478.out; have hnc32 := NB478_481.out; have hcz33 := Yb5 BK481.out; have hcz34 := Yb5 BK478.out))
       refine bodyPost_ret (results_cell_row rfl _ _ gb478 46 #[.int .i64 t495, .string t493, .int .i32 0, .bool false, .int .u32 0] (0, 0) _ rfl (by (with_reducible repeat (first | refine blk_drewN ?_ _ | refine blk_drew ?_ | refine blk_alloc ?_ _)); refine blk_put (cs := #[.int .i64 t495, .string t493, .int .i32 0, .bool false, .int .u32 0]) ?_ 4 _ rfl; (with_reducible repeat (first | refine blk_drewN ?_ _ | refine blk_drew ?_ | refine blk_alloc ?_ _)); refine blk_put (cs := #[.int .i64 t495, .string t493, .int .i32 0, .bool false, .int .u32 0]) ?_ 3 _ rfl; (with_reducible repeat (first | refine blk_drewN ?_ _ | refine blk_drew ?_ | refine blk_alloc ?_ _)); refine blk_put (cs := #[.int .i64 t495, .string t493, .int .i32 0, .bool false, .int .u32 0]) ?_ 2 _ rfl; (with_reducible repeat (first | refine blk_drewN ?_ _ | refine blk_drew ?_ | refine blk_alloc ?_ _)); refine blk_put (cs := #[.int .i64 t495, .string (⟨#[]⟩ : ByteArray), .int .i32 0, .bool false, .int .u32 0]) ?_ 1 _ rfl; (with_reducible repeat (first | refine blk_drewN ?_ _ | refine blk_drew ?_ | refine blk_alloc ?_ _)); refine blk_put (cs := #[.int .i64 0, .string (⟨#[]⟩ : ByteArray), .int .i32 0, .bool false, .int .u32 0]) ?_ 0 _ rfl; (with_reducible repeat (first | refine blk_drewN ?_ _ | refine blk_drew ?_ | refine blk_alloc ?_ _)); refine blk_far ?_ NB478_481.out _; (with_reducible repeat (first | refine blk_drewN ?_ _ | refine blk_drew ?_ | refine blk_alloc ?_ _)); refine blk_far ?_ NB478_481.out _; (with_reducible repeat (first | refine blk_drewN ?_ _ | refine blk_drew ?_ | refine blk_alloc ?_ _)); refine blk_far ?_ NB478_481.out _; (with_reducible repeat (first | refine blk_drewN ?_ _ | refine blk_drew ?_ | refine blk_alloc ?_ _)); refine blk_far ?_ NB478_481.out _; (with_reducible repeat (first | refine blk_drewN ?_ _ | refine blk_drew ?_ | refine blk_alloc ?_ _)); refine blk_far ?_ NB478_481.out _; (with_reducible repeat (first | refine blk_drewN ?_ _ | refine blk_drew ?_ | refine blk_alloc ?_ _)); exact BK478.out) Tryz.underlying46 rfl Z0) rfl ?_
       exact ⟨Z76, Z75⟩
      replace c28 := Bool.eq_false_iff.mpr c28; subst c28; replace H := Yf H; simp only [Option.some.injEq, Prod.mk.injEq] at H; obtain ⟨rfl, rfl, rfl, rfl, rfl⟩ := H; obtain ⟨Ao35, co35, eo35⟩ := Kd.R_slice HO_6.out; subst eo35
      go_wp2_with (first | ((with_reducible refine gate_callee (f := 71) rfl ?_); refine goesL_ (some 54) rfl rfl Tryz.func71 Z0 rfl #[.slice Ao35 x6_15.length co35] rfl Z10 ?_; (with_reducible refine (impl_Unpack.calls kj15 _ _ x6_15 t493 false _ ?side1 ?side2 A27.out).mono ?_); (case side1 => exact (Z16 HO_6)); (case side2 => exact (Kd.R_reads' HO_6.out).2.1); rintro e w36 ⟨rfl, hb⟩; refine ⟨_, rfl, ?_⟩; replace HO_6 := Z (Kd.R_below (Z11 HO_6) hb); replace BK478 := Z (Yk BK478 hb); replace BK481 := Z (Yk BK481 hb); replace HB := Z (below_step Z75 hb); (try clear hb); (try clear hb2); (try clear hk); (try clear hi); have hnb37 := NB481_478.out; have hnc37 := NB478_481.out; have hcz38 := Yb5 BK481.out; have hcz39 := Yb5 BK478.out))
      refine bodyPost_ret (results_cell_row rfl _ _ gb478 46 #[.int .i64 0, .string (⟨#[]⟩ : ByteArray), .int .i32 0, .bool false, .int .u32 (rd l0 0)] (0, 0) _ rfl (Z31 BK478) Tryz.underlying46 rfl Z0) rfl ?_
      exact ⟨Z76, Z75⟩
   replace c14 := Bool.eq_false_iff.mpr c14; subst c14; replace H := Yf H; replace H := Yi H; rcases H with ⟨c40, H⟩ | ⟨c40, H⟩
   ·obtain ⟨c40b0, c40b1⟩ := Ye c40; clear c40; simp only [Option.some.injEq, Prod.mk.injEq] at H; obtain ⟨rfl, rfl, rfl, rfl, rfl⟩ := H; have hnb41 := NB481_478.out; have hnc41 := NB478_481.out; have hcz42 := Yb5 BK481.out; have hcz43 := Yb5 BK478.out
    go_wp2
    refine bodyPost_ret (results_cell_row rfl _ _ gb478 46 #[.int .i64 7, .string (⟨#[]⟩ : ByteArray), .int .i32 ((wrap32 ((rd l0 0))) / 32), .bool ((Go.bits .and .u32 (rd l0 0) 16) != 0), .int .u32 0] (0, 0) _ rfl (by (with_reducible repeat (first | refine blk_drewN ?_ _ | refine blk_drew ?_ | refine blk_alloc ?_ _)); refine blk_put (cs := #[.int .i64 7, .string (⟨#[]⟩ : ByteArray), .int .i32 ((wrap32 ((rd l0 0))) / 32), .bool ((Go.bits .and .u32 (rd l0 0) 16) != 0), .int .u32 0]) ?_ 4 _ rfl; (with_reducible repeat (first | refine blk_drewN ?_ _ | refine blk_drew ?_ | refine blk_alloc ?_ _)); refine blk_put (cs := #[.int .i64 7, .string (⟨#[]⟩ : ByteArray), .int .i32 ((wrap32 ((rd l0 0))) / 32), .bool false, .int .u32 0]) ?_ 3 _ rfl; (with_reducible repeat (first | refine blk_drewN ?_ _ | refine blk_drew ?_ | refine blk_alloc ?_ _)); refine blk_put (cs := #[.int .i64 7, .string (⟨#[]⟩ : ByteArray), .int .i32 0, .bool false, .int .u32 0]) ?_ 2 _ rfl; (with_reducible repeat (first | refine blk_drewN ?_ _ | refine blk_drew ?_ | refine blk_alloc ?_ _)); refine blk_put (cs := #[.int .i64 7, .string (⟨#[]⟩ : ByteArray), .int .i32 0, .bool false, .int .u32 0]) ?_ 1 _ rfl; (with_reducible repeat (first | refine blk_drewN ?_ _ | refine blk_drew ?_ | refine blk_alloc ?_ _)); refine blk_put (cs := #[.int .i64 0, .string (⟨#[]⟩ : ByteArray), .int .i32 0, .bool false, .int .u32 0]) ?_ 0 _ rfl; (with_reducible repeat (first | refine blk_drewN ?_ _ | refine blk_drew ?_ | refine blk_alloc ?_ _)); refine blk_far ?_ NB478_481.out _; (with_reducible repeat (first | refine blk_drewN ?_ _ | refine blk_drew ?_ | refine blk_alloc ?_ _)); refine blk_far ?_ NB478_481.out _; (with_reducible repeat (first | refine blk_drewN ?_ _ | refine blk_drew ?_ | refine blk_alloc ?_ _)); refine blk_far ?_ NB478_481.out _; (with_reducible repeat (first | refine blk_drewN ?_ _ | refine blk_drew ?_ | refine blk_alloc ?_ _)); refine blk_far ?_ NB478_481.out _; (with_reducible repeat (first | refine blk_drewN ?_ _ | refine blk_drew ?_ | refine blk_alloc ?_ _)); refine blk_far ?_ NB478_481.out _; (with_reducible repeat (first | refine blk_drewN ?_ _ | refine blk_drew ?_ | refine blk_alloc ?_ _)); exact BK478.out) Tryz.underlying46 rfl Z0) rfl ?_
    exact ⟨Z76, Z75⟩
   obtain ⟨c40b0, c40b1⟩ := Yn c40; replace H := Yi H; rcases H with ⟨c44, H⟩ | ⟨c44, H⟩
   ·obtain ⟨c44b0, c44b1⟩ := Ye c44; clear c44; simp only [Option.some.injEq, Prod.mk.injEq] at H; obtain ⟨rfl, rfl, rfl, rfl, rfl⟩ := H; have hnb45 := NB481_478.out; have hnc45 := NB478_481.out; have hcz46 := Yb5 BK481.out; have hcz47 := Yb5 BK478.out
    go_wp2
    refine bodyPost_ret (results_cell_row rfl _ _ gb478 46 #[.int .i64 8, .string (⟨#[]⟩ : ByteArray), .int .i32 ((wrap32 ((rd l0 0))) / 32), .bool ((Go.bits .and .u32 (rd l0 0) 16) != 0), .int .u32 0] (0, 0) _ rfl (by (with_reducible repeat (first | refine blk_drewN ?_ _ | refine blk_drew ?_ | refine blk_alloc ?_ _)); refine blk_put (cs := #[.int .i64 8, .string (⟨#[]⟩ : ByteArray), .int .i32 ((wrap32 ((rd l0 0))) / 32), .bool ((Go.bits .and .u32 (rd l0 0) 16) != 0), .int .u32 0]) ?_ 4 _ rfl; (with_reducible repeat (first | refine blk_drewN ?_ _ | refine blk_drew ?_ | refine blk_alloc ?_ _)); refine blk_put (cs := #[.int .i64 8, .string (⟨#[]⟩ : ByteArray), .int .i32 ((wrap32 ((rd l0 0))) / 32), .bool false, .int .u32 0]) ?_ 3 _ rfl; (with_reducible repeat (first | refine blk_drewN ?_ _ | refine blk_drew ?_ | refine blk_alloc ?_ _)); refine blk_put (cs := #[.int .i64 8, .string (⟨#[]⟩ : ByteArray), .int .i32 0, .bool false, .int .u32 0]) ?_ 2 _ rfl; (with_reducible repeat (first | refine blk_drewN ?_ _ | refine blk_drew ?_ | refine blk_alloc ?_ _)); refine blk_put (cs := #[.int .i64 8, .string (⟨#[]⟩ : ByteArray), .int .i32 0, .bool false, .int .u32 0]) ?_ 1 _ rfl; (with_reducible repeat (first | refine blk_drewN ?_ _ | refine blk_drew ?_ | refine blk_alloc ?_ _)); refine blk_put (cs := #[.int .i64 0, .string (⟨#[]⟩ : ByteArray), .int .i32 0, .bool false, .int .u32 0]) ?_ 0 _ rfl; (with_reducible repeat (first | refine blk_drewN ?_ _ | refine blk_drew ?_ | refine blk_alloc ?_ _)); refine blk_far ?_ NB478_481.out _; (with_reducible repeat (first | refine blk_drewN ?_ _ | refine blk_drew ?_ | refine blk_alloc ?_ _)); refine blk_far ?_ NB478_481.out _; (with_reducible repeat (first | refine blk_drewN ?_ _ | refine blk_drew ?_ | refine blk_alloc ?_ _)); refine blk_far ?_ NB478_481.out _; (with_reducible repeat (first | refine blk_drewN ?_ _ | refine blk_drew ?_ | refine blk_alloc ?_ _)); refine blk_far ?_ NB478_481.out _; (with_reducible repeat (first | refine blk_drewN ?_ _ | refine blk_drew ?_ | refine blk_alloc ?_ _)); refine blk_far ?_ NB478_481.out _; (with_reducible repeat (first | refine blk_drewN ?_ _ | refine blk_drew ?_ | refine blk_alloc ?_ _)); exact BK478.out) Tryz.underlying46 rfl Z0) rfl ?_
    exact ⟨Z76, Z75⟩
   obtain ⟨c44b0, c44b1⟩ := Yn c44; have HC48 := Aside0.mk H; clear H
   go_upto_if 80 with (fail)
   go_cut [80] (fun v80 wc => ∃ (kq : Nat) (x80_47 : Bool), v80 = .bool x80_47 ∧ Aside0 (impl_parseOne.j3 kq l0 (rd l0 0) (Go.bits .and .u32 (rd l0 0) 15) (Go.bits .and .u32 (rd l0 0) 15) x80_47 0 (⟨#[]⟩ : ByteArray) 0 false (rd l0 0) = some (r1, r2, r3, r4, r5)) ∧ Aside0 (kq ≤ kj2) ∧ Aside0 (wc.heap[gb478]? = some (.cells #[.int .i64 0, .string (⟨#[]⟩ : ByteArray), .int .i32 0, .bool false, .int .u32 0] 46 (0, 0))) ∧ Aside0 (wc.heap[gb481]? = some (.cells #[.int .i64 0, .string (⟨#[]⟩ : ByteArray), .int .i32 0, .bool false, .int .u32 (rd l0 0)] 46 (0, 0))) ∧ Aside0 (Below w.heap.size w wc))
   case first =>
    have H := HC48.out; clear HC48; replace H := Yi H; rcases H with ⟨c49, H⟩ | ⟨c49, H⟩
    ·obtain ⟨c49b0, c49b1⟩ := Ye c49; clear c49
     (first | rw [c49b0] | (simp only [i64_w, i32_w]; rw [c49b0]) | skip)
     have H' := Aside0.mk H; clear H
     go_wp2
     go_meet
     case rel => exact ⟨_, (((Go.bits .and .u32 (rd l0 0) 15) == 2)), Z2, H', ⟨by have := HJ2.out; first | omega | exact Nat.le_refl _⟩, ⟨(Z8 BK478)⟩, ⟨(Z8 BK481)⟩, ⟨Z75⟩⟩
    obtain ⟨c49b0, c49b1⟩ := Yn c49
    (first | rw [c49b0] | (simp only [i64_w, i32_w]; rw [c49b0]) | skip)
    have H' := Aside0.mk H; clear H
    go_wp2
    go_meet
    case rel => exact ⟨_, (((Go.bits .and .u32 (rd l0 0) 15) == 5)), Z2, H', ⟨by have := HJ2.out; first | omega | exact Nat.le_refl _⟩, ⟨(Z8 BK478)⟩, ⟨(Z8 BK481)⟩, ⟨Z75⟩⟩
   case rest =>
    clear HC48; (try clear c1); (try clear q1); (try clear c2); (try clear c2b0); (try clear c2b1); (try clear p2); (try clear c3); (try clear p3); (try clear c4); (try clear p4); (try clear q4); (try clear hx4); (try clear qi4); (try clear p6); (try clear c7); (try clear c9); (try clear c9b0); (try clear c9b1); (try clear c10); (try clear c10b0); (try clear c10b1); (try clear c11); (try clear c11b0); (try clear c11b1); (try clear c12); (try clear c12b0); (try clear c12b1); (try clear c13); (try clear c13b0); (try clear c13b1); (try clear c14); (try clear c15); (try clear c15b0); (try clear c15b1); (try clear c19); (try clear q19); (try clear c20); (try clear c20b0); (try clear c21); (try clear c21b0); (try clear c22); (try clear c22b0); (try clear c23); (try clear c23b0); (try clear c23b1); (try clear c24); (try clear c24b0); (try clear c24b1); (try clear c25); (try clear c28); (try clear c32); (try clear p32); (try clear c37); (try clear c40); (try clear c40b0); (try clear c40b1); (try clear c41); (try clear c44); (try clear c44b0); (try clear c44b1); (try clear c45); (try clear p47); (try clear q47); (try clear hx47); (try clear p48); (try clear q48); (try clear hx48); (try clear c49); (try clear c49b0); (try clear c49b1); (try clear hcz33); (try clear hcz34); (try clear hcz38); (try clear hcz39); (try clear hcz42); (try clear hcz43); (try clear hcz46); (try clear hcz47); (try clear hcz8); (try clear hx479_0); (try clear hx480_0); (try clear hx489_0); (try clear p2); (try clear p4); (try clear p479); (try clear p480); (try clear p489); (try clear p6); (try clear q1); (try clear q19); (try clear q4); (try clear q479); (try clear q480); (try clear q489); obtain ⟨kq, x80_47, rfl, HA, HJ47, BK478, BK481, HB⟩ := hcut
    cases kq with
    | zero => exact absurd HA.out (by simp [impl_parseOne.j3])
    | succ kj47 =>
     have H := HA.out; clear HA; simp only [impl_parseOne.j3] at H; by_cases c50 : x80_47 = true
     ·subst c50; replace H := Yt H; replace H := Yi H; rcases H with ⟨c51, H⟩ | ⟨c51, H⟩
      ·have c51b0 := decide_eq_true c51; have c51b1 : decide (l0.length < 2) = true := decide_eq_true (by omega); clear c51; simp only [Option.some.injEq, Prod.mk.injEq] at H; obtain ⟨rfl, rfl, rfl, rfl, rfl⟩ := H; have hnb52 := NB481_478.out; have hnc52 := NB478_481.out; have hcz53 := Yb5 BK481.out; have hcz54 := Yb5 BK478.out
       go_wp2
       refine bodyPost_ret (results_cell_row rfl _ _ gb478 46 #[.int .i64 0, .string (⟨#[]⟩ : ByteArray), .int .i32 0, .bool false, .int .u32 (rd l0 0)] (0, 0) _ rfl (Z31 BK478) Tryz.underlying46 rfl Z0) rfl ?_
       exact ⟨Z76, Z75⟩
      have c51b0 := decide_eq_false c51; have c51b1 : decide (l0.length < 2) = false := decide_eq_false (by omega); clear c51; replace H := Yg H; obtain ⟨c55, H⟩ := H; have c55b0 := decide_eq_true c55; have c55b1 : decide (1 < l0.length) = true := decide_eq_true (by omega); clear c55; have HC56 := Aside0.mk H; clear H; have p496 : 0 ≤ (1 : Int) := (by omega); have q496 : 1 < (l0.length : Int) := of_decide_eq_true Z5; obtain ⟨ad496, e496, hx496_0⟩ := Kd.at_int HR0.out 1 p496 q496; obtain rfl : ad479 = ad496 := (by injection e496)
      (try simp only [show (1 : Int).toNat = 1 from rfl, Nat.reduceMul, Nat.reduceEqDiff, Go.Addr.add, ↓reduceIte] at hx496_0)
      have qi496 : (1 < l0.length) = True := eq_true (by omega)
      (try rw [show ((1 : Int)).toNat = 1 from rfl] at hx496_0)
      replace hx496_0 := Yh HB.out hx496_0; replace p496 := eq_true p496; replace q496 := eq_true q496
      go_upto_if 95 with (first | ((with_reducible refine gate_dst (N := 11) rfl ?_); refine box_event (by rfl) (N := 11) (by rfl) (cs := #[.int .i64 0, .string (⟨#[]⟩ : ByteArray), .int .i32 0, .bool false, .int .u32 0]) (t := 46) Z7 ?_; intro gb497 hg w57 hbox hb; have BK497 := Z (hbox); have GW497 := Z ((Z99 : w.heap.size ≤ gb497)); have GE497 := Z ((Z99 : w.heap.size ≤ gb497)); replace HB := Z (below_step Z75 hb); have NB478_497 := Z ((Z81 : gb478 ≠ gb497)); have NB497_478 := Z ((Z82 : gb497 ≠ gb478)); replace BK478 := Z (Yk BK478 hb); have NB481_497 := Z ((by rw [hg]; exact Nat.ne_of_lt (blk_lt (g := gb481) (o := .cells #[.int .i64 0, .string (⟨#[]⟩ : ByteArray), .int .i32 0, .bool false, .int .u32 (rd l0 0)] 46 (0, 0)) (Z8 BK481)) : gb481 ≠ gb497)); have NB497_481 := Z ((by rw [hg]; exact Nat.ne_of_gt (blk_lt (g := gb481) (o := .cells #[.int .i64 0, .string (⟨#[]⟩ : ByteArray), .int .i32 0, .bool false, .int .u32 (rd l0 0)] 46 (0, 0)) (Z8 BK481)) : gb497 ≠ gb481)); replace BK481 := Z (Yk BK481 hb); clear hb hbox hg; have hnb58 := NB497_478.out; have hnc58 := NB478_497.out; have hnb59 := NB497_481.out; have hnc59 := NB481_497.out; have hcz60 := Yb5 BK497.out))
      (try simp only [Act.put, List.setIfInBounds_toArray, List.set_cons_zero, List.set_cons_succ])
      go_cut [] (fun wc => ∃ (kq : Nat) (x498000_55 : Int), Aside0 (impl_parseOne.j4 kq l0 0 (⟨#[]⟩ : ByteArray) 0 false (rd l0 0) x498000_55 (⟨#[]⟩ : ByteArray) (wrap32 (rd l0 1)) ((Go.bits .and .u32 (rd l0 0) 16) != 0) 0 = some (r1, r2, r3, r4, r5)) ∧ Aside0 (kq ≤ kj47) ∧ Aside0 (wc.heap[gb478]? = some (.cells #[.int .i64 0, .string (⟨#[]⟩ : ByteArray), .int .i32 0, .bool false, .int .u32 0] 46 (0, 0))) ∧ Aside0 (wc.heap[gb481]? = some (.cells #[.int .i64 0, .string (⟨#[]⟩ : ByteArray), .int .i32 0, .bool false, .int .u32 (rd l0 0)] 46 (0, 0))) ∧ Aside0 (wc.heap[gb497]? = some (.cells #[.int .i64 x498000_55, .string (⟨#[]⟩ : ByteArray), .int .i32 (wrap32 (rd l0 1)), .bool ((Go.bits .and .u32 (rd l0 0) 16) != 0), .int .u32 0] 46 (0, 0))) ∧ Aside0 (Below w.heap.size w wc))
      case first =>
       have H := HC56.out; clear HC56; replace H := Yi H; rcases H with ⟨c61, H⟩ | ⟨c61, H⟩
       ·obtain ⟨c61b0, c61b1⟩ := Ye c61; clear c61
        (first | rw [c61b0] | (simp only [i64_w, i32_w]; rw [c61b0]) | skip)
        have H' := Aside0.mk H; clear H; have hnb62 := NB497_478.out; have hnc62 := NB478_497.out; have hnb63 := NB497_481.out; have hnc63 := NB481_497.out; have hcz64 := Yb5 BK497.out
        go_wp2
        go_meet
        case rel => exact ⟨_, (8), H', ⟨Z34⟩, ⟨by (with_reducible repeat (first | refine blk_drewN ?_ _ | refine blk_drew ?_ | refine blk_alloc ?_ _)); refine blk_far ?_ NB478_497.out _; (with_reducible repeat (first | refine blk_drewN ?_ _ | refine blk_drew ?_ | refine blk_alloc ?_ _)); refine blk_far ?_ NB478_497.out _; (with_reducible repeat (first | refine blk_drewN ?_ _ | refine blk_drew ?_ | refine blk_alloc ?_ _)); refine blk_far ?_ NB478_497.out _; (with_reducible repeat (first | refine blk_drewN ?_ _ | refine blk_drew ?_ | refine blk_alloc ?_ _)); refine blk_far ?_ NB478_497.out _; (with_reducible repeat (first | refine blk_drewN ?_ _ | refine blk_drew ?_ | refine blk_alloc ?_ _)); refine blk_far ?_ NB478_497.out _; (with_reducible repeat (first | refine blk_drewN ?_ _ | refine blk_drew ?_ | refine blk_alloc ?_ _)); refine blk_far ?_ NB478_497.out _; (with_reducible repeat (first | refine blk_drewN ?_ _ | refine blk_drew ?_ | refine blk_alloc ?_ _)); exact BK478.out⟩, ⟨by (with_reducible repeat (first | refine blk_drewN ?_ _ | refine blk_drew ?_ | refine blk_alloc ?_ _)); refine blk_far ?_ NB481_497.out _; (with_reducible repeat (first | refine blk_drewN ?_ _ | refine blk_drew ?_ | refine blk_alloc ?_ _)); refine blk_far ?_ NB481_497.out _; (with_reducible repeat (first | refine blk_drewN ?_ _ | refine blk_drew ?_ | refine blk_alloc ?_ _)); refine blk_far ?_ NB481_497.out _; (with_reducible repeat (first | refine blk_drewN ?_ _ | refine blk_drew ?_ | refine blk_alloc ?_ _)); refine blk_far ?_ NB481_497.out _; (with_reducible repeat (first | refine blk_drewN ?_ _ | refine blk_drew ?_ | refine blk_alloc ?_ _)); refine blk_far ?_ NB481_497.out _; (with_reducible repeat (first | refine blk_drewN ?_ _ | refine blk_drew ?_ | refine blk_alloc ?_ _)); refine blk_far ?_ NB481_497.out _; (with_reducible repeat (first | refine blk_drewN ?_ _ | refine blk_drew ?_ | refine blk_alloc ?_ _)); exact BK481.out⟩, ⟨by (with_reducible repeat (first | refine blk_drewN ?_ _ | refine blk_drew ?_ | refine blk_alloc ?_ _)); refine blk_put (cs := #[.int .i64 7, .string (⟨#[]⟩ : ByteArray), .int .i32 (wrap32 (rd l0 1)), .bool ((Go.bits .and .u32 (rd l0 0) 16) != 0), .int .u32 0]) ?_ 0 _ rfl; (with_reducible repeat (first | refine blk_drewN ?_ _ | refine blk_drew ?_ | refine blk_alloc ?_ _)); refine blk_put (cs := #[.int .i64 7, .string (⟨#[]⟩ : ByteArray), .int .i32 (wrap32 (rd l0 1)), .bool ((Go.bits .and .u32 (rd l0 0) 16) != 0), .int .u32 0]) ?_ 4 _ rfl; (with_reducible repeat (first | refine blk_drewN ?_ _ | refine blk_drew ?_ | refine blk_alloc ?_ _)); refine blk_put (cs := #[.int .i64 7, .string (⟨#[]⟩ : ByteArray), .int .i32 (wrap32 (rd l0 1)), .bool false, .int .u32 0]) ?_ 3 _ rfl; (with_reducible repeat (first | refine blk_drewN ?_ _ | refine blk_drew ?_ | refine blk_alloc ?_ _)); refine blk_put (cs := #[.int .i64 7, .string (⟨#[]⟩ : ByteArray), .int .i32 0, .bool false, .int .u32 0]) ?_ 2 _ rfl; (with_reducible repeat (first | refine blk_drewN ?_ _ | refine blk_drew ?_ | refine blk_alloc ?_ _)); refine blk_put (cs := #[.int .i64 7, .string (⟨#[]⟩ : ByteArray), .int .i32 0, .bool false, .int .u32 0]) ?_ 1 _ rfl; (with_reducible repeat (first | refine blk_drewN ?_ _ | refine blk_drew ?_ | refine blk_alloc ?_ _)); refine blk_put (cs := #[.int .i64 0, .string (⟨#[]⟩ : ByteArray), .int .i32 0, .bool false, .int .u32 0]) ?_ 0 _ rfl; (with_reducible repeat (first | refine blk_drewN ?_ _ | refine blk_drew ?_ | refine blk_alloc ?_ _)); exact BK497.out⟩, ⟨Z75⟩⟩
       obtain ⟨c61b0, c61b1⟩ := Yn c61
       (first | rw [c61b0] | (simp only [i64_w, i32_w]; rw [c61b0]) | skip)
       have H' := Aside0.mk H; clear H
       go_wp2
       go_meet
       case rel => exact ⟨_, (7), H', ⟨Z34⟩, ⟨by (with_reducible repeat (first | refine blk_drewN ?_ _ | refine blk_drew ?_ | refine blk_alloc ?_ _)); refine blk_far ?_ NB478_497.out _; (with_reducible repeat (first | refine blk_drewN ?_ _ | refine blk_drew ?_ | refine blk_alloc ?_ _)); refine blk_far ?_ NB478_497.out _; (with_reducible repeat (first | refine blk_drewN ?_ _ | refine blk_drew ?_ | refine blk_alloc ?_ _)); refine blk_far ?_ NB478_497.out _; (with_reducible repeat (first | refine blk_drewN ?_ _ | refine blk_drew ?_ | refine blk_alloc ?_ _)); refine blk_far ?_ NB478_497.out _; (with_reducible repeat (first | refine blk_drewN ?_ _ | refine blk_drew ?_ | refine blk_alloc ?_ _)); refine blk_far ?_ NB478_497.out _; (with_reducible repeat (first | refine blk_drewN ?_ _ | refine blk_drew ?_ | refine blk_alloc ?_ _)); exact BK478.out⟩, ⟨by (with_reducible repeat (first | refine blk_drewN ?_ _ | refine blk_drew ?_ | refine blk_alloc ?_ _)); refine blk_far ?_ NB481_497.out _; (with_reducible repeat (first | refine blk_drewN ?_ _ | refine blk_drew ?_ | refine blk_alloc ?_ _)); refine blk_far ?_ NB481_497.out _; (with_reducible repeat (first | refine blk_drewN ?_ _ | refine blk_drew ?_ | refine blk_alloc ?_ _)); refine blk_far ?_ NB481_497.out _; (with_reducible repeat (first | refine blk_drewN ?_ _ | refine blk_drew ?_ | refine blk_alloc ?_ _)); refine blk_far ?_ NB481_497.out _; (with_reducible repeat (first | refine blk_drewN ?_ _ | refine blk_drew ?_ | refine blk_alloc ?_ _)); refine blk_far ?_ NB481_497.out _; (with_reducible repeat (first | refine blk_drewN ?_ _ | refine blk_drew ?_ | refine blk_alloc ?_ _)); exact BK481.out⟩, ⟨by (with_reducible repeat (first | refine blk_drewN ?_ _ | refine blk_drew ?_ | refine blk_alloc ?_ _)); refine blk_put (cs := #[.int .i64 7, .string (⟨#[]⟩ : ByteArray), .int .i32 (wrap32 (rd l0 1)), .bool ((Go.bits .and .u32 (rd l0 0) 16) != 0), .int .u32 0]) ?_ 4 _ rfl; (with_reducible repeat (first | refine blk_drewN ?_ _ | refine blk_drew ?_ | refine blk_alloc ?_ _)); refine blk_put (cs := #[.int .i64 7, .string (⟨#[]⟩ : ByteArray), .int .i32 (wrap32 (rd l0 1)), .bool false, .int .u32 0]) ?_ 3 _ rfl; (with_reducible repeat (first | refine blk_drewN ?_ _ | refine blk_drew ?_ | refine blk_alloc ?_ _)); refine blk_put (cs := #[.int .i64 7, .string (⟨#[]⟩ : ByteArray), .int .i32 0, .bool false, .int .u32 0]) ?_ 2 _ rfl; (with_reducible repeat (first | refine blk_drewN ?_ _ | refine blk_drew ?_ | refine blk_alloc ?_ _)); refine blk_put (cs := #[.int .i64 7, .string (⟨#[]⟩ : ByteArray), .int .i32 0, .bool false, .int .u32 0]) ?_ 1 _ rfl; (with_reducible repeat (first | refine blk_drewN ?_ _ | refine blk_drew ?_ | refine blk_alloc ?_ _)); refine blk_put (cs := #[.int .i64 0, .string (⟨#[]⟩ : ByteArray), .int .i32 0, .bool false, .int .u32 0]) ?_ 0 _ rfl; (with_reducible repeat (first | refine blk_drewN ?_ _ | refine blk_drew ?_ | refine blk_alloc ?_ _)); exact BK497.out⟩, ⟨Z75⟩⟩
      case rest =>
       clear HC56; (try clear c1); (try clear q1); (try clear c2); (try clear c2b0); (try clear c2b1); (try clear p2); (try clear c3); (try clear p3); (try clear c4); (try clear p4); (try clear q4); (try clear hx4); (try clear qi4); (try clear c5); (try clear c6); (try clear p6); (try clear c7); (try clear c9); (try clear c9b0); (try clear c9b1); (try clear c10); (try clear c10b0); (try clear c10b1); (try clear c11); (try clear c11b0); (try clear c11b1); (try clear c12); (try clear c12b0); (try clear c12b1); (try clear c13); (try clear c13b0); (try clear c13b1); (try clear c14); (try clear c15); (try clear c15b0); (try clear c15b1); (try clear c19); (try clear q19); (try clear c20); (try clear c20b0); (try clear c21); (try clear c21b0); (try clear c22); (try clear c22b0); (try clear c23); (try clear c23b0); (try clear c23b1); (try clear c24); (try clear c24b0); (try clear c24b1); (try clear c25); (try clear c28); (try clear c32); (try clear p32); (try clear c37); (try clear c40); (try clear c40b0); (try clear c40b1); (try clear c41); (try clear c44); (try clear c44b0); (try clear c44b1); (try clear c45); (try clear p47); (try clear q47); (try clear hx47); (try clear p48); (try clear q48); (try clear hx48); (try clear c49); (try clear c49b0); (try clear c49b1); (try clear p49); (try clear q49); (try clear hx49); (try clear qi49); (try clear c50); (try clear c51); (try clear c51b0); (try clear c51b1); (try clear c52); (try clear c55); (try clear c55b0); (try clear c55b1); (try clear c58); (try clear c59); (try clear c61); (try clear c61b0); (try clear c61b1); (try clear c62); (try clear c63); (try clear p64); (try clear hcz33); (try clear hcz34); (try clear hcz38); (try clear hcz39); (try clear hcz42); (try clear hcz43); (try clear hcz46); (try clear hcz47); (try clear hcz53); (try clear hcz54); (try clear hcz60); (try clear hcz64); (try clear hcz8); (try clear hx479_0); (try clear hx480_0); (try clear hx489_0); (try clear hx496_0); (try clear p2); (try clear p3); (try clear p32); (try clear p4); (try clear p47); (try clear p479); (try clear p48); (try clear p480); (try clear p489); (try clear p496); (try clear p6); (try clear q1); (try clear q19); (try clear q4); (try clear q47); (try clear q479); (try clear q48); (try clear q480); (try clear q489); (try clear q496); obtain ⟨kq, x498000_55, HA, HJ55, BK478, BK481, BK497, HB⟩ := hcut
       cases kq with
       | zero => exact absurd HA.out (by simp [impl_parseOne.j4])
       | succ kj55 =>
        have H := HA.out; clear HA; simp only [impl_parseOne.j4] at H; replace H := Yd H; obtain ⟨t498, A65, H⟩ := H; (try dsimp only at H); replace H := Yg H; obtain ⟨c66, H⟩ := H; have c66b0 := eq_true c66; have c66b1 := decide_eq_true c66; clear c66; replace H := Yd H; obtain ⟨t502, A67, H⟩ := H; (try dsimp only at H); by_cases c68 : t502 = true
        ·subst c68; replace H := Yt H; simp only [Option.some.injEq, Prod.mk.injEq] at H; obtain ⟨rfl, rfl, rfl, rfl, rfl⟩ := H
         try go_wp2
         have n0_ := Z (blk_drew BK478.out); have n1_ := Z (blk_drew BK481.out); have n2_ := Z (blk_drew BK497.out); have n3_ := Z (below_drew1 HB.out); clear BK478; clear BK481; clear BK497; clear HB; have BK478 := n0_; have BK481 := n1_; have BK497 := n2_; have HB := n3_; clear n0_ n1_ n2_ n3_; obtain ⟨i070, hi070, _, hsz70, _⟩ := info_parts info44; obtain ⟨hcut70, hA70, hC70⟩ := print_take_of (P := Tryz.prog) (Value.int .u32) 0 24 44 .i64 Tryz.underlying24 hi070 hsz70 (some ad479) c0 l0 2 (by omega) (of_decide_eq_true Z5) HC0.out; have HR501 := Z (Kd.C_of_reads (h1 := fun _ => rfl) (hA70 _ (Kd.reads_of_C HR0.out))); have HC501 := Aside0.mk hC70; clear hA70 hC70 hi070 hsz70; refine start_ (n := 5) (S := fun w' => w'.cell? ⟨gb497, 0, none⟩ = some (.int .i64 x498000_55) ∧ w'.cell? ⟨gb497, 1, none⟩ = some (.string (⟨#[]⟩ : ByteArray)) ∧ w'.cell? ⟨gb497, 2, none⟩ = some (.int .i32 (wrap32 (rd l0 1))) ∧ w'.cell? ⟨gb497, 3, none⟩ = some (.bool ((Go.bits .and .u32 (rd l0 0) 16) != 0)) ∧ w'.cell? ⟨gb497, 4, none⟩ = some (.int .u32 0)) (ds := []) #[false, false, false, false, false] Z0 rfl rfl ⟨(blk_cell BK497.out 0).trans rfl, (blk_cell BK497.out 1).trans rfl, (blk_cell BK497.out 2).trans rfl, (blk_cell BK497.out 3).trans rfl, (blk_cell BK497.out 4).trans rfl⟩ (fun hHeld => ?_)
         generalize wc.drew = w69 at BK478 BK481 BK497 HB HR501 hHeld ⊢; refine pure_ (i := 2) (N := some 99) (v := ?_) (a' := ?_) #[false, false, true, false, false] rfl rfl Z0 (fun _ _ _ h => h) (Or.inl ⟨by rfl, ?_⟩) ?_ ?_
         rotate_left
         ·intro w'
          go_simp
          with_reducible rfl
         rotate_left
         ·simp only [Act.put, List.setIfInBounds_toArray, List.set_cons_zero, List.set_cons_succ, i64_w, i32_w]
          rfl
         refine pure_ (i := 3) (N := some 100) (v := ?_) (a' := ?_) #[false, false, true, true, false] rfl rfl Z0 (fun _ _ _ h => h) (Or.inl ⟨by rfl, ?_⟩) ?_ ?_
         rotate_left
         ·intro w'
          go_simp
          with_reducible rfl
         rotate_left
         ·simp only [Act.put, List.setIfInBounds_toArray, List.set_cons_zero, List.set_cons_succ, i64_w, i32_w]
          rfl
         refine take_ (i := 0) (N := some 97) (v := ?_) (a' := ?_) #[true, false, true, true, false] rfl rfl Z0 (fun _ _ _ h => h) (Or.inl ⟨by rfl, ?_⟩) hHeld ?_ ?_
         rotate_left
         ·rintro w' ⟨s0, s1, s2, s3, s4⟩
          go_simp
          with_reducible rfl
         rotate_left
         ·simp only [Act.put, List.setIfInBounds_toArray, List.set_cons_zero, List.set_cons_succ, i64_w, i32_w]
          rfl
         refine one_ (i := 1) (N := some 98) #[true, true, true, true, false] rfl rfl Z0 (by decide) (fun K hK => ?_)
         refine goes_ Tryz.func27 Z0 rfl #[.agg #[.int .i64 x498000_55, .string (⟨#[]⟩ : ByteArray), .int .i32 (wrap32 (rd l0 1)), .bool ((Go.bits .and .u32 (rd l0 0) 16) != 0), .int .u32 0]] (by rfl) rfl rfl Z10 ?_
         with_reducible refine (impl_CellsOf.calls kj55 x498000_55 (⟨#[]⟩ : ByteArray) (wrap32 (rd l0 1)) ((Go.bits .and .u32 (rd l0 0) 16) != 0) 0 t498 _ A65.out).mono ?_
         rintro e w71 ⟨v499, rfl, ho0, hb⟩; refine ⟨_, rfl, ?_⟩
         have n0_ := Z (Kd.R_lower ho0 (below_size Z75)); have n1_ := Z (Yk BK478 hb); have n2_ := Z (Yk BK481 hb); have n3_ := Z (Yk BK497 hb); have n4_ := Z (below_step Z75 hb); clear BK478; clear BK481; clear BK497; clear HB; have HO500 := n0_; have BK478 := n1_; have BK481 := n2_; have BK497 := n3_; have HB := n4_; clear n0_ n1_ n2_ n3_ n4_
         (try clear hb)
         (try clear hb2)
         (try clear hk)
         (try clear hi)
         (try clear ho0)
         obtain ⟨Ao72, co72, eo72⟩ := Kd.R_slice HO500.out
         (first | subst eo72 | (injection eo72 with f1_ f2_ f3_; have f4_ := f1_.symm; have f5_ := f3_.symm; clear f1_ f2_ f3_; subst f4_; subst f5_))
         refine hK.out _ _ ⟨(blk_cell BK497.out 0).trans rfl, (blk_cell BK497.out 1).trans rfl, (blk_cell BK497.out 2).trans rfl, (blk_cell BK497.out 3).trans rfl, (blk_cell BK497.out 4).trans rfl⟩ (fun hHeld => ?_)
         clear hK K; refine norm_ (a' := ?_) ?_ ?_
         rotate_left
         ·show Act.put _ (some 98) _ = _
          simp only [Act.put, List.setIfInBounds_toArray, List.set_cons_zero, List.set_cons_succ, i64_w, i32_w]
          rfl
         refine one_ (i := 4) (N := some 101) #[true, true, true, true, true] rfl rfl Z0 (by decide) (fun K hK => ?_)
         refine goes_ Tryz.func73 Z0 rfl #[.slice Ao72 t498.length co72, .slice (some ad479) (l0.take 2).length c0] (by rfl) rfl rfl Z103 ?_
         with_reducible refine (slices_Equal_uint32_uint32.calls kj55 _ _ t498 _ _ (l0.take 2) true _ ?side1 ?side2 ?side3 ?side4 A67.out).mono ?_
         (case side1 => exact (Z16 HO500))
         (case side2 => exact (Kd.R_reads' HO500.out).2.1)
         (case side3 => exact (Z29 HR501))
         (case side4 => exact HC501.out)
         rintro e w' ⟨rfl, ⟨nd, rfl⟩⟩; refine ⟨_, rfl, ?_⟩
         refine hK.out _ _ ⟨(blk_cell BK497.out 0).trans rfl, (blk_cell BK497.out 1).trans rfl, (blk_cell BK497.out 2).trans rfl, (blk_cell BK497.out 3).trans rfl, (blk_cell BK497.out 4).trans rfl⟩ (fun hHeld => ?_)
         clear hK K; refine norm_ (a' := ?_) ?_ ?_
         rotate_left
         ·show Act.put _ (some 101) _ = _
          simp only [Act.put, List.setIfInBounds_toArray, List.set_cons_zero, List.set_cons_succ, i64_w, i32_w]
          rfl
         refine done_ Z0 ?_
         have hnb73 := NB497_478.out; have hnc73 := NB478_497.out; have hnb74 := NB497_481.out; have hnc74 := NB481_497.out; have hcz75 := Yb5 BK497.out; have hnb76 := NB481_478.out; have hnc76 := NB478_481.out; have hcz77 := Yb5 BK481.out; have hcz78 := Yb5 BK478.out
         try go_wp2
         refine bodyPost_ret (results_cell_row rfl _ _ gb478 46 #[.int .i64 x498000_55, .string (⟨#[]⟩ : ByteArray), .int .i32 (wrap32 (rd l0 1)), .bool ((Go.bits .and .u32 (rd l0 0) 16) != 0), .int .u32 0] (0, 0) _ rfl (by (with_reducible repeat (first | refine blk_drewN ?_ _ | refine blk_drew ?_ | refine blk_alloc ?_ _)); refine blk_put (cs := #[.int .i64 x498000_55, .string (⟨#[]⟩ : ByteArray), .int .i32 (wrap32 (rd l0 1)), .bool ((Go.bits .and .u32 (rd l0 0) 16) != 0), .int .u32 0]) ?_ 4 _ rfl; (with_reducible repeat (first | refine blk_drewN ?_ _ | refine blk_drew ?_ | refine blk_alloc ?_ _)); refine blk_put (cs := #[.int .i64 x498000_55, .string (⟨#[]⟩ : ByteArray), .int .i32 (wrap32 (rd l0 1)), .bool false, .int .u32 0]) ?_ 3 _ rfl; (with_reducible repeat (first | refine blk_drewN ?_ _ | refine blk_drew ?_ | refine blk_alloc ?_ _)); refine blk_put (cs := #[.int .i64 x498000_55, .string (⟨#[]⟩ : ByteArray), .int .i32 0, .bool false, .int .u32 0]) ?_ 2 _ rfl; (with_reducible repeat (first | refine blk_drewN ?_ _ | refine blk_drew ?_ | refine blk_alloc ?_ _)); refine blk_put (cs := #[.int .i64 x498000_55, .string (⟨#[]⟩ : ByteArray), .int .i32 0, .bool false, .int .u32 0]) ?_ 1 _ rfl; (with_reducible repeat (first | refine blk_drewN ?_ _ | refine blk_drew ?_ | refine blk_alloc ?_ _)); refine blk_put (cs := #[.int .i64 0, .string (⟨#[]⟩ : ByteArray), .int .i32 0, .bool false, .int .u32 0]) ?_ 0 _ rfl; (with_reducible repeat (first | refine blk_drewN ?_ _ | refine blk_drew ?_ | refine blk_alloc ?_ _)); refine blk_far ?_ NB478_481.out _; (with_reducible repeat (first | refine blk_drewN ?_ _ | refine blk_drew ?_ | refine blk_alloc ?_ _)); refine blk_far ?_ NB478_481.out _; (with_reducible repeat (first | refine blk_drewN ?_ _ | refine blk_drew ?_ | refine blk_alloc ?_ _)); refine blk_far ?_ NB478_481.out _; (with_reducible repeat (first | refine blk_drewN ?_ _ | refine blk_drew ?_ | refine blk_alloc ?_ _)); refine blk_far ?_ NB478_481.out _; (with_reducible repeat (first | refine blk_drewN ?_ _ | refine blk_drew ?_ | refine blk_alloc ?_ _)); refine blk_far ?_ NB478_481.out _; (with_reducible repeat (first | refine blk_drewN ?_ _ | refine blk_drew ?_ | refine blk_alloc ?_ _)); exact BK478.out) Tryz.underlying46 rfl Z0) rfl ?_
         exact ⟨Z76, Z75⟩
        replace c68 := Bool.eq_false_iff.mpr c68; subst c68; replace H := Yf H; simp only [Option.some.injEq, Prod.mk.injEq] at H; obtain ⟨rfl, rfl, rfl, rfl, rfl⟩ := H
        try go_wp2
        have n0_ := Z (blk_drew BK478.out); have n1_ := Z (blk_drew BK481.out); have n2_ := Z (blk_drew BK497.out); have n3_ := Z (below_drew1 HB.out); clear BK478; clear BK481; clear BK497; clear HB; have BK478 := n0_; have BK481 := n1_; have BK497 := n2_; have HB := n3_; clear n0_ n1_ n2_ n3_; obtain ⟨i080, hi080, _, hsz80, _⟩ := info_parts info44; obtain ⟨hcut80, hA80, hC80⟩ := print_take_of (P := Tryz.prog) (Value.int .u32) 0 24 44 .i64 Tryz.underlying24 hi080 hsz80 (some ad479) c0 l0 2 (by omega) (of_decide_eq_true Z5) HC0.out; have HR501 := Z (Kd.C_of_reads (h1 := fun _ => rfl) (hA80 _ (Kd.reads_of_C HR0.out))); have HC501 := Aside0.mk hC80; clear hA80 hC80 hi080 hsz80; refine start_ (n := 5) (S := fun w' => w'.cell? ⟨gb497, 0, none⟩ = some (.int .i64 x498000_55) ∧ w'.cell? ⟨gb497, 1, none⟩ = some (.string (⟨#[]⟩ : ByteArray)) ∧ w'.cell? ⟨gb497, 2, none⟩ = some (.int .i32 (wrap32 (rd l0 1))) ∧ w'.cell? ⟨gb497, 3, none⟩ = some (.bool ((Go.bits .and .u32 (rd l0 0) 16) != 0)) ∧ w'.cell? ⟨gb497, 4, none⟩ = some (.int .u32 0)) (ds := []) #[false, false, false, false, false] Z0 rfl rfl ⟨(blk_cell BK497.out 0).trans rfl, (blk_cell BK497.out 1).trans rfl, (blk_cell BK497.out 2).trans rfl, (blk_cell BK497.out 3).trans rfl, (blk_cell BK497.out 4).trans rfl⟩ (fun hHeld => ?_)
        generalize wc.drew = w79 at BK478 BK481 BK497 HB HR501 hHeld ⊢; refine pure_ (i := 2) (N := some 99) (v := ?_) (a' := ?_) #[false, false, true, false, false] rfl rfl Z0 (fun _ _ _ h => h) (Or.inl ⟨by rfl, ?_⟩) ?_ ?_
        rotate_left
        ·intro w'
         go_simp
         with_reducible rfl
        rotate_left
        ·simp only [Act.put, List.setIfInBounds_toArray, List.set_cons_zero, List.set_cons_succ, i64_w, i32_w]
         rfl
        refine pure_ (i := 3) (N := some 100) (v := ?_) (a' := ?_) #[false, false, true, true, false] rfl rfl Z0 (fun _ _ _ h => h) (Or.inl ⟨by rfl, ?_⟩) ?_ ?_
        rotate_left
        ·intro w'
         go_simp
         with_reducible rfl
        rotate_left
        ·simp only [Act.put, List.setIfInBounds_toArray, List.set_cons_zero, List.set_cons_succ, i64_w, i32_w]
         rfl
        refine take_ (i := 0) (N := some 97) (v := ?_) (a' := ?_) #[true, false, true, true, false] rfl rfl Z0 (fun _ _ _ h => h) (Or.inl ⟨by rfl, ?_⟩) hHeld ?_ ?_
        rotate_left
        ·rintro w' ⟨s0, s1, s2, s3, s4⟩
         go_simp
         with_reducible rfl
        rotate_left
        ·simp only [Act.put, List.setIfInBounds_toArray, List.set_cons_zero, List.set_cons_succ, i64_w, i32_w]
         rfl
        refine one_ (i := 1) (N := some 98) #[true, true, true, true, false] rfl rfl Z0 (by decide) (fun K hK => ?_)
        refine goes_ Tryz.func27 Z0 rfl #[.agg #[.int .i64 x498000_55, .string (⟨#[]⟩ : ByteArray), .int .i32 (wrap32 (rd l0 1)), .bool ((Go.bits .and .u32 (rd l0 0) 16) != 0), .int .u32 0]] (by rfl) rfl rfl Z10 ?_
        with_reducible refine (impl_CellsOf.calls kj55 x498000_55 (⟨#[]⟩ : ByteArray) (wrap32 (rd l0 1)) ((Go.bits .and .u32 (rd l0 0) 16) != 0) 0 t498 _ A65.out).mono ?_
        rintro e w81 ⟨v499, rfl, ho0, hb⟩; refine ⟨_, rfl, ?_⟩
        have n0_ := Z (Kd.R_lower ho0 (below_size Z75)); have n1_ := Z (Yk BK478 hb); have n2_ := Z (Yk BK481 hb); have n3_ := Z (Yk BK497 hb); have n4_ := Z (below_step Z75 hb); clear BK478; clear BK481; clear BK497; clear HB; have HO500 := n0_; have BK478 := n1_; have BK481 := n2_; have BK497 := n3_; have HB := n4_; clear n0_ n1_ n2_ n3_ n4_
        (try clear hb)
        (try clear hb2)
        (try clear hk)
        (try clear hi)
        (try clear ho0)
        obtain ⟨Ao82, co82, eo82⟩ := Kd.R_slice HO500.out
        (first | subst eo82 | (injection eo82 with f1_ f2_ f3_; have f4_ := f1_.symm; have f5_ := f3_.symm; clear f1_ f2_ f3_; subst f4_; subst f5_))
        refine hK.out _ _ ⟨(blk_cell BK497.out 0).trans rfl, (blk_cell BK497.out 1).trans rfl, (blk_cell BK497.out 2).trans rfl, (blk_cell BK497.out 3).trans rfl, (blk_cell BK497.out 4).trans rfl⟩ (fun hHeld => ?_)
        clear hK K; refine norm_ (a' := ?_) ?_ ?_
        rotate_left
        ·show Act.put _ (some 98) _ = _
         simp only [Act.put, List.setIfInBounds_toArray, List.set_cons_zero, List.set_cons_succ, i64_w, i32_w]
         rfl
        refine one_ (i := 4) (N := some 101) #[true, true, true, true, true] rfl rfl Z0 (by decide) (fun K hK => ?_)
        refine goes_ Tryz.func73 Z0 rfl #[.slice Ao82 t498.length co82, .slice (some ad479) (l0.take 2).length c0] (by rfl) rfl rfl Z103 ?_
        with_reducible refine (slices_Equal_uint32_uint32.calls kj55 _ _ t498 _ _ (l0.take 2) false _ ?side1 ?side2 ?side3 ?side4 A67.out).mono ?_
        (case side1 => exact (Z16 HO500))
        (case side2 => exact (Kd.R_reads' HO500.out).2.1)
        (case side3 => exact (Z29 HR501))
        (case side4 => exact HC501.out)
        rintro e w' ⟨rfl, ⟨nd, rfl⟩⟩; refine ⟨_, rfl, ?_⟩
        refine hK.out _ _ ⟨(blk_cell BK497.out 0).trans rfl, (blk_cell BK497.out 1).trans rfl, (blk_cell BK497.out 2).trans rfl, (blk_cell BK497.out 3).trans rfl, (blk_cell BK497.out 4).trans rfl⟩ (fun hHeld => ?_)
        clear hK K; refine norm_ (a' := ?_) ?_ ?_
        rotate_left
        ·show Act.put _ (some 101) _ = _
         simp only [Act.put, List.setIfInBounds_toArray, List.set_cons_zero, List.set_cons_succ, i64_w, i32_w]
         rfl
        refine done_ Z0 ?_
        have hnb83 := NB481_478.out; have hnc83 := NB478_481.out; have hnb84 := NB481_497.out; have hnc84 := NB497_481.out; have hcz85 := Yb5 BK481.out; have hnb86 := NB478_497.out; have hnc86 := NB497_478.out; have hcz87 := Yb5 BK478.out
        try go_wp2
        refine bodyPost_ret (results_cell_row rfl _ _ gb478 46 #[.int .i64 0, .string (⟨#[]⟩ : ByteArray), .int .i32 0, .bool false, .int .u32 (rd l0 0)] (0, 0) _ rfl (Z31 BK478) Tryz.underlying46 rfl Z0) rfl ?_
        exact ⟨Z76, Z75⟩
     replace c50 := Bool.eq_false_iff.mpr c50; subst c50; replace H := Yf H; replace H := Yi H; rcases H with ⟨c88, H⟩ | ⟨c88, H⟩
     ·obtain ⟨c88b0, c88b1⟩ := Ye c88; clear c88; replace H := Yi H; rcases H with ⟨c89, H⟩ | ⟨c89, H⟩
      ·have c89b0 : decide (1 < (l0.length : Int)) = true := decide_eq_true c89; have c89b1 : decide (1 < l0.length) = true := decide_eq_true (by omega); clear c89; replace H := Yd H; obtain ⟨t503, A90, H⟩ := H; (try dsimp only at H); by_cases c91 : t503 = true
       ·subst c91; replace H := Yt H; replace H := Yd H; obtain ⟨t504, A92, H⟩ := H; (try dsimp only at H); replace H := Yg H; obtain ⟨c93, H⟩ := H; have c93b0 := decide_eq_true c93; have c93b1 : decide (1 < l0.length) = true := decide_eq_true (by omega); clear c93; simp only [Option.some.injEq, Prod.mk.injEq] at H; obtain ⟨rfl, rfl, rfl, rfl, rfl⟩ := H
        try go_wp2_with (first | (go_at_call 74; (with_reducible refine (impl_FieldOk.calls kj47 ((rd l0 0) / 16) true _ A90.out).mono ?_); rintro e w94 ⟨rfl, hb⟩; replace BK478 := Z (Yk BK478 hb); replace BK481 := Z (Yk BK481 hb); replace HB := Z (below_step Z75 hb); (try clear hb); (try clear hb2); (try clear hk); (try clear hi)))
        have n0_ := Z (blk_drew BK478.out); have n1_ := Z (blk_drew BK481.out); have n2_ := Z (below_drew1 HB.out); clear BK478; clear BK481; clear HB; have BK478 := n0_; have BK481 := n1_; have HB := n2_; clear n0_ n1_ n2_; have p505 : 0 ≤ (1 : Int) := (by omega); have q505 : 1 < (l0.length : Int) := of_decide_eq_true Z5; obtain ⟨ad505, e505, hx505_0⟩ := Kd.at_int HR0.out 1 p505 q505; have hw505_0 := hx505_0
        (try rw [show ((1 : Int)).toNat = 1 from rfl] at hw505_0)
        (try rw [show 1 * 1 = 1 from rfl] at hw505_0)
        (try simp only [Nat.reduceMul, Nat.reduceEqDiff, Go.Addr.add, ↓reduceIte] at hw505_0)
        obtain rfl : ad479 = ad505 := (by injection e505)
        (try simp only [show (1 : Int).toNat = 1 from rfl, Nat.reduceMul, Nat.reduceEqDiff, Go.Addr.add, ↓reduceIte] at hx505_0)
        have qi505 : (1 < l0.length) = True := eq_true (by omega)
        (try rw [show ((1 : Int)).toNat = 1 from rfl] at hx505_0)
        replace hx505_0 := Yh HB.out hx505_0; replace p505 := eq_true p505; replace q505 := eq_true q505; refine start_ (n := 9) (S := fun w' => w'.cell? ⟨ad479.block, ad479.off + 1, none⟩ = some (.int .u32 (rd l0 1))) (ds := []) #[false, false, false, false, false, false, false, false, false] Z0 rfl rfl (((HB.out.cell (World.block_lt_of_cell? w _ hw505_0)).trans hw505_0)) (fun hHeld => ?_); refine with_tabW impl_parseOne.tab34 impl_parseOne.bits34 (fun HT_ HW_ => ?_)
        generalize w94.drew = w95 at BK478 BK481 HB hx505_0 hHeld ⊢; refine pure_ (i := 0) (N := some 113) (v := ?_) (a' := ?_) #[true, false, false, false, false, false, false, false, false] rfl rfl (any_of HT_.out Z0) (fun _ _ _ h => h) (Or.inl ⟨by rfl, ?_⟩) ?_ ?_
        rotate_left
        ·intro w'
         go_simp
         with_reducible rfl
        rotate_left
        ·simp only [Act.put, List.setIfInBounds_toArray, List.set_cons_zero, List.set_cons_succ, i64_w, i32_w]
         rfl
        refine pure_ (i := 1) (N := some 114) (v := ?_) (a' := ?_) #[true, true, false, false, false, false, false, false, false] rfl rfl (any_of HT_.out Z0) (fun _ _ _ h => h) (Or.inl ⟨by rfl, ?_⟩) ?_ ?_
        rotate_left
        ·intro w'
         go_simp
         with_reducible rfl
        rotate_left
        ·simp only [Act.put, List.setIfInBounds_toArray, List.set_cons_zero, List.set_cons_succ, i64_w, i32_w]
         rfl
        refine pure_ (i := 3) (N := some 116) (v := ?_) (a' := ?_) #[true, true, false, true, false, false, false, false, false] rfl rfl (any_of HT_.out Z0) (fun _ _ _ h => h) (Or.inl ⟨by rfl, ?_⟩) ?_ ?_
        rotate_left
        ·intro w'
         go_simp
         with_reducible rfl
        rotate_left
        ·simp only [Act.put, List.setIfInBounds_toArray, List.set_cons_zero, List.set_cons_succ, i64_w, i32_w]
         rfl
        refine pure_ (i := 4) (N := some 117) (v := ?_) (a' := ?_) #[true, true, false, true, true, false, false, false, false] rfl rfl (any_of HT_.out Z0) (fun _ _ _ h => h) (Or.inl ⟨by rfl, ?_⟩) ?_ ?_
        rotate_left
        ·intro w'
         go_simp
         with_reducible rfl
        rotate_left
        ·simp only [Act.put, List.setIfInBounds_toArray, List.set_cons_zero, List.set_cons_succ, i64_w, i32_w]
         rfl
        refine take_ (i := 5) (N := some 118) (v := ?_) (a' := ?_) #[true, true, false, true, true, true, false, false, false] rfl rfl (take_ofW HT_.out HW_.out Z0) (fun _ _ _ h => h) (Or.inl ⟨by rfl, ?_⟩) hHeld ?_ ?_
        rotate_left
        ·intro w' s0
         go_simp
         with_reducible rfl
        rotate_left
        ·simp only [Act.put, List.setIfInBounds_toArray, List.set_cons_zero, List.set_cons_succ, i64_w, i32_w]
         rfl
        refine pure_ (i := 6) (N := some 119) (v := ?_) (a' := ?_) #[true, true, false, true, true, true, true, false, false] rfl rfl (any_of HT_.out Z0) (fun _ _ _ h => h) (Or.inl ⟨by rfl, ?_⟩) ?_ ?_
        rotate_left
        ·intro w'
         go_simp
         with_reducible rfl
        rotate_left
        ·simp only [Act.put, List.setIfInBounds_toArray, List.set_cons_zero, List.set_cons_succ, i64_w, i32_w]
         rfl
        refine one_ (i := 2) (N := some 115) #[true, true, true, true, true, true, true, false, false] rfl rfl (one_of HT_.out Z0) (by decide) (fun K hK => ?_)
        refine goes_ Tryz.func75 Z0 rfl #[.int .u32 ((rd l0 0) / 16)] (by rfl) rfl rfl Z10 ?_
        with_reducible refine (impl_UnpackOne.calls kj47 ((rd l0 0) / 16) t504 _ A92.out).mono ?_
        rintro e w96 ⟨rfl, hb⟩; refine ⟨_, rfl, ?_⟩
        have n0_ := Z (Yk BK478 hb); have n1_ := Z (Yk BK481 hb); have n2_ := Z (below_step Z75 hb); clear BK478; clear BK481; clear HB; have BK478 := n0_; have BK481 := n1_; have HB := n2_; clear n0_ n1_ n2_
        (try clear hb)
        (try clear hb2)
        (try clear hk)
        (try clear hi)
        refine hK.out _ _ (((HB.out.cell (World.block_lt_of_cell? w _ hw505_0)).trans hw505_0)) (fun hHeld => ?_)
        clear hK K; refine norm_ (a' := ?_) ?_ ?_
        rotate_left
        ·show Act.put _ (some 115) _ = _
         simp only [Act.put, List.setIfInBounds_toArray, List.set_cons_zero, List.set_cons_succ, i64_w, i32_w]
         rfl
        refine pure_ (i := 7) (N := some 120) (v := ?_) (a' := ?_) #[true, true, true, true, true, true, true, true, false] rfl rfl (any_of HT_.out Z0) (fun _ _ _ h => h) (Or.inl ⟨by rfl, ?_⟩) ?_ ?_
        rotate_left
        ·intro w'
         go_simp
         with_reducible rfl
        rotate_left
        ·simp only [Act.put, List.setIfInBounds_toArray, List.set_cons_zero, List.set_cons_succ, i64_w, i32_w]
         rfl
        refine one_ (i := 8) (N := none) #[true, true, true, true, true, true, true, true, true] rfl rfl (one_of HT_.out Z0) (by decide) (fun K hK => ?_)
        have hs97 : w96.cell? ⟨gb481, 0, none⟩ = some (.int .i64 0) := (blk_cell BK481.out 0).trans rfl; have hfs97 := blk_frozen BK481.out 0; have hns97_0 := NB478_481.out; have hms97_0 := NB481_478.out; have hs98 : w96.cell? ⟨gb481, 1, none⟩ = some (.string (⟨#[]⟩ : ByteArray)) := (blk_cell BK481.out 1).trans rfl; have hfs98 := blk_frozen BK481.out 1; have hns98_0 := NB478_481.out; have hms98_0 := NB481_478.out; have hs99 : w96.cell? ⟨gb481, 2, none⟩ = some (.int .i32 0) := (blk_cell BK481.out 2).trans rfl; have hfs99 := blk_frozen BK481.out 2; have hns99_0 := NB478_481.out; have hms99_0 := NB481_478.out; have hs100 : w96.cell? ⟨gb481, 3, none⟩ = some (.bool false) := (blk_cell BK481.out 3).trans rfl; have hfs100 := blk_frozen BK481.out 3; have hns100_0 := NB478_481.out; have hms100_0 := NB481_478.out; have hs101 : w96.cell? ⟨gb481, 4, none⟩ = some (.int .u32 (rd l0 0)) := (blk_cell BK481.out 4).trans rfl; have hfs101 := blk_frozen BK481.out 4; have hns101_0 := NB478_481.out; have hms101_0 := NB481_478.out; refine skip_ (w1 := ?_) (by rfl) rfl ?_ ?_
        rotate_left
        ·go_simp
         rfl
        refine hK.out _ _ (((cell_far (p := ⟨gb481, _, none⟩) Z84 _).trans (((cell_far (p := ⟨gb481, _, none⟩) Z84 _).trans (((cell_far (p := ⟨gb481, _, none⟩) Z84 _).trans (((cell_far (p := ⟨gb481, _, none⟩) Z84 _).trans (((cell_far (p := ⟨gb481, _, none⟩) Z84 _).trans (hHeld))))))))))) (fun hHeld => ?_)
        clear hK K; refine done_ (done_of HT_.out Z0) ?_
        have hnb102 := NB481_478.out; have hnc102 := NB478_481.out; have hcz103 := Yb5 BK481.out; have hcz104 := Yb5 BK478.out
        try go_wp2
        refine bodyPost_ret (results_cell_row rfl _ _ gb478 46 #[.int .i64 9, .string t504, .int .i32 (wrap32 (rd l0 1)), .bool false, .int .u32 0] (0, 0) _ rfl (by (with_reducible repeat (first | refine blk_drewN ?_ _ | refine blk_drew ?_ | refine blk_alloc ?_ _)); refine blk_put (cs := #[.int .i64 9, .string t504, .int .i32 (wrap32 (rd l0 1)), .bool false, .int .u32 0]) ?_ 4 _ rfl; (with_reducible repeat (first | refine blk_drewN ?_ _ | refine blk_drew ?_ | refine blk_alloc ?_ _)); refine blk_put (cs := #[.int .i64 9, .string t504, .int .i32 (wrap32 (rd l0 1)), .bool false, .int .u32 0]) ?_ 3 _ rfl; (with_reducible repeat (first | refine blk_drewN ?_ _ | refine blk_drew ?_ | refine blk_alloc ?_ _)); refine blk_put (cs := #[.int .i64 9, .string t504, .int .i32 0, .bool false, .int .u32 0]) ?_ 2 _ rfl; (with_reducible repeat (first | refine blk_drewN ?_ _ | refine blk_drew ?_ | refine blk_alloc ?_ _)); refine blk_put (cs := #[.int .i64 9, .string (⟨#[]⟩ : ByteArray), .int .i32 0, .bool false, .int .u32 0]) ?_ 1 _ rfl; (with_reducible repeat (first | refine blk_drewN ?_ _ | refine blk_drew ?_ | refine blk_alloc ?_ _)); refine blk_put (cs := #[.int .i64 0, .string (⟨#[]⟩ : ByteArray), .int .i32 0, .bool false, .int .u32 0]) ?_ 0 _ rfl; (with_reducible repeat (first | refine blk_drewN ?_ _ | refine blk_drew ?_ | refine blk_alloc ?_ _)); refine blk_far ?_ NB478_481.out _; (with_reducible repeat (first | refine blk_drewN ?_ _ | refine blk_drew ?_ | refine blk_alloc ?_ _)); refine blk_far ?_ NB478_481.out _; (with_reducible repeat (first | refine blk_drewN ?_ _ | refine blk_drew ?_ | refine blk_alloc ?_ _)); refine blk_far ?_ NB478_481.out _; (with_reducible repeat (first | refine blk_drewN ?_ _ | refine blk_drew ?_ | refine blk_alloc ?_ _)); refine blk_far ?_ NB478_481.out _; (with_reducible repeat (first | refine blk_drewN ?_ _ | refine blk_drew ?_ | refine blk_alloc ?_ _)); refine blk_far ?_ NB478_481.out _; (with_reducible repeat (first | refine blk_drewN ?_ _ | refine blk_drew ?_ | refine blk_alloc ?_ _)); exact BK478.out) Tryz.underlying46 rfl Z0) rfl ?_
        exact ⟨Z76, Z75⟩
       replace c91 := Bool.eq_false_iff.mpr c91; subst c91; replace H := Yf H; simp only [Option.some.injEq, Prod.mk.injEq] at H; obtain ⟨rfl, rfl, rfl, rfl, rfl⟩ := H
       go_wp2_with (first | (go_at_call 74; (with_reducible refine (impl_FieldOk.calls kj47 ((rd l0 0) / 16) false _ A90.out).mono ?_); rintro e w105 ⟨rfl, hb⟩; replace BK478 := Z (Yk BK478 hb); replace BK481 := Z (Yk BK481 hb); replace HB := Z (below_step Z75 hb); (try clear hb); (try clear hb2); (try clear hk); (try clear hi); have hnb106 := NB481_478.out; have hnc106 := NB478_481.out; have hcz107 := Yb5 BK481.out; have hcz108 := Yb5 BK478.out))
       refine bodyPost_ret (results_cell_row rfl _ _ gb478 46 #[.int .i64 0, .string (⟨#[]⟩ : ByteArray), .int .i32 0, .bool false, .int .u32 (rd l0 0)] (0, 0) _ rfl (Z31 BK478) Tryz.underlying46 rfl Z0) rfl ?_
       exact ⟨Z76, Z75⟩
      have c89b0 : decide (1 < (l0.length : Int)) = false := decide_eq_false c89; have c89b1 : decide (1 < l0.length) = false := decide_eq_false (by omega); clear c89; simp only [Option.some.injEq, Prod.mk.injEq] at H; obtain ⟨rfl, rfl, rfl, rfl, rfl⟩ := H; have hnb109 := NB481_478.out; have hnc109 := NB478_481.out; have hcz110 := Yb5 BK481.out; have hcz111 := Yb5 BK478.out
      go_wp2
      refine bodyPost_ret (results_cell_row rfl _ _ gb478 46 #[.int .i64 0, .string (⟨#[]⟩ : ByteArray), .int .i32 0, .bool false, .int .u32 (rd l0 0)] (0, 0) _ rfl (Z31 BK478) Tryz.underlying46 rfl Z0) rfl ?_
      exact ⟨Z76, Z75⟩
     obtain ⟨c88b0, c88b1⟩ := Yn c88; simp only [Option.some.injEq, Prod.mk.injEq] at H; obtain ⟨rfl, rfl, rfl, rfl, rfl⟩ := H; have hnb112 := NB481_478.out; have hnc112 := NB478_481.out; have hcz113 := Yb5 BK481.out; have hcz114 := Yb5 BK478.out
     go_wp2
     refine bodyPost_ret (results_cell_row rfl _ _ gb478 46 #[.int .i64 0, .string (⟨#[]⟩ : ByteArray), .int .i32 0, .bool false, .int .u32 (rd l0 0)] (0, 0) _ rfl (Z31 BK478) Tryz.underlying46 rfl Z0) rfl ?_
     exact ⟨Z76, Z75⟩

end Go.Proofs.YtfjmpdcflnaogaaGreatDoor.QFnNotes
