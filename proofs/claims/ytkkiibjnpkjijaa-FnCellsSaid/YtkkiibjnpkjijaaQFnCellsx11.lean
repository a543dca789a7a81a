/-
Plain functions for the Go functions that a law reaches, each with a proof that the translation's call comes to just that; no conditions beyond those written in each.
-/
import Derived.Test.YtkkiibjnpkjijaaSFnCells
import Derived.Test.YtkkiibjnpkjijaaQFnCellsx2
import Derived.Test.YtkkiibjnpkjijaaQFnCellsx3
import Derived.Test.YtkkiibjnpkjijaaQFnCellsx4
import Derived.Test.YtkkiibjnpkjijaaQFnCellsx10
namespace Go.Proofs.Ytkkiibjnpkjijaa.QFnCells
open Go.RowKit Go.Proofs.YtkkiibjnpkjijaaW.PrintWords Go.Proofs.YtkkiibjnpkjijaaW.PrintLast Go.Proofs.YtkkiibjnpkjijaaW.PrintMore
attribute [local go_sem] max2_int min2_int max_two min_two max_three min_three max_four min_four   -- for this text's walks alone
set_option linter.unusedVariables false
set_option linter.unusedSimpArgs false

/-! ### spec_UnpackOne: function 97 -/
mutual
def spec_UnpackOne.l0 : Nat → Int → List Int → Int → Option (ByteArray)
 | 0, _, _, _ => none
 | k + 1, x0, x3, x4 => if x4 > 0 then (if 0 ≤ (IntKind.u64.wrap (x4)) then (spec_UnpackOne.j1 k x0 x3 x4 ((Go.bits .and .i64 (wrap64 (x0)) (wrap64 ((shl .i64 1 (IntKind.u64.wrap (x4))) - 1))) != 0)) else (none)) else (spec_UnpackOne.j1 k x0 x3 x4 false)
def spec_UnpackOne.j1 : Nat → Int → List Int → Int → Bool → Option (ByteArray)
 | 0, _, _, _, _ => none
 | k + 1, x0, x3, x4, x22 => if x22 = true then ((spec_Decode.f k x0 x4).bind fun bt548 => (if bt548.1 < 1 then (some (strOfNums x3)) else ((spec_LetterAt.f bt548.1).bind fun t550 => (if x3.length < 140737488355328 then (spec_UnpackOne.l0 k x0 (x3 ++ [t550]) (wrap64 (x4 - bt548.2))) else (none))))) else (some (strOfNums x3))
end
def spec_UnpackOne.f (k : Nat) (a0 : Int) : Option (ByteArray) := if (wrap64 (a0)) ≥ 268435456 then (some (⟨#[]⟩ : ByteArray)) else (spec_UnpackOne.l0 k a0 (([] : List Int)) 28)
theorem spec_UnpackOne.mono_l : ∀ k, (∀ y0 y1 y2, LeO (spec_UnpackOne.l0 k y0 y1 y2) (spec_UnpackOne.l0 (k + 1) y0 y1 y2)) ∧ (∀ y0 y1 y2 y3, LeO (spec_UnpackOne.j1 k y0 y1 y2 y3) (spec_UnpackOne.j1 (k + 1) y0 y1 y2 y3))
 | 0 => ⟨fun _ _ _ r h => by simp [spec_UnpackOne.l0] at h, fun _ _ _ _ r h => by simp [spec_UnpackOne.j1] at h⟩
 | k + 1 => by
  obtain ⟨ih0, ih1⟩ := spec_UnpackOne.mono_l k
  refine ⟨?_, ?_⟩
  ·intro y0 y1 y2
   unfold spec_UnpackOne.l0
   repeat' first
   | (with_reducible exact ih0 _ _ _)
   | (with_reducible exact ih1 _ _ _ _)
   | (with_reducible exact spec_Decode.mono _ _ _)
   | (with_reducible exact LeO.refl _)
   | (with_reducible exact LeO.none _)
   | (with_reducible refine LeO.ite ?_ ?_)
   | (with_reducible refine LeO.bind ?_ (fun _ => ?_))
   | exact ih0 _ _ _
   | exact ih1 _ _ _ _
   | exact spec_Decode.mono _ _ _
   | exact LeO.none _
   | refine LeO.ite ?_ ?_
   | refine LeO.bind ?_ (fun _ => ?_)
  ·intro y0 y1 y2 y3
   unfold spec_UnpackOne.j1
   repeat' first
   | (with_reducible exact ih0 _ _ _)
   | (with_reducible exact ih1 _ _ _ _)
   | (with_reducible exact spec_Decode.mono _ _ _)
   | (with_reducible exact LeO.refl _)
   | (with_reducible exact LeO.none _)
   | (with_reducible refine LeO.ite ?_ ?_)
   | (with_reducible refine LeO.bind ?_ (fun _ => ?_))
   | exact ih0 _ _ _
   | exact ih1 _ _ _ _
   | exact spec_Decode.mono _ _ _
   | exact LeO.none _
   | refine LeO.ite ?_ ?_
   | refine LeO.bind ?_ (fun _ => ?_)
theorem spec_UnpackOne.mono : ∀ a0 k, LeO (spec_UnpackOne.f k a0) (spec_UnpackOne.f (k + 1) a0) := by
 intro a0 k
 obtain ⟨ih0, ih1⟩ := spec_UnpackOne.mono_l k
 unfold spec_UnpackOne.f
 repeat' first
   | (with_reducible exact ih0 _ _ _)
   | (with_reducible exact ih1 _ _ _ _)
   | (with_reducible exact spec_Decode.mono _ _ _)
   | (with_reducible exact LeO.refl _)
   | (with_reducible exact LeO.none _)
   | (with_reducible refine LeO.ite ?_ ?_)
   | (with_reducible refine LeO.bind ?_ (fun _ => ?_))
   | exact ih0 _ _ _
   | exact ih1 _ _ _ _
   | exact spec_Decode.mono _ _ _
   | exact LeO.none _
   | refine LeO.ite ?_ ?_
   | refine LeO.bind ?_ (fun _ => ?_)
set_option maxHeartbeats 8000000 in
set_option maxRecDepth 100000 in
theorem spec_UnpackOne.calls (k : Nat) (a0 : Int) (r : ByteArray) (w : World) (h : spec_UnpackOne.f k a0 = some r) :
  Calls Try.prog 97 #[.int .u32 a0] w fun e w' => e = .returned (.string r) ∧ Below w.heap.size w w' := by
 have HB := Z (Below.refl w.heap.size w)
 have H : (if (wrap64 (a0)) ≥ 268435456 then (some (⟨#[]⟩ : ByteArray)) else (spec_UnpackOne.l0 k a0 (([] : List Int)) 28)) = some r := h
 clear h
 by_cases c2 : (wrap64 (a0)) ≥ 268435456
 ·rw [if_pos c2] at H
  have c2b0 : decide (268435456 ≤ (wrap64 (a0))) = true := decide_eq_true c2
  clear c2
  obtain rfl := Option.some.inj H
  go_enter Try.func97, Try.ntmps97
  go_wp2
  go_ret
  exact ⟨Z9, Z63⟩
 ·rw [if_neg c2] at H
  have c2b0 : decide (268435456 ≤ (wrap64 (a0))) = false := decide_eq_false c2
  clear c2
  obtain ⟨y545, hy545⟩ : ∃ y_ : List Int, y_ = (([] : List Int)) := ⟨_, rfl⟩
  replace H : (spec_UnpackOne.l0 k a0 y545 28) = some r := by first | (rw [hy545]; with_reducible exact H) | (have H2_ := (Option.bind_some _ _).symm.trans H; rw [hy545]; with_reducible exact H2_) | (have H2_ := (Option.bind_some _ _).symm.trans H; with_reducible exact H2_) | with_reducible exact H | (rw [hy545]; exact H) | exact H
  have Ny545 := Aside0.mk hy545
  clear hy545
  have H' := Aside0.mk H
  clear H
  go_enter Try.func97, Try.ntmps97
  go_wp2_with (first | ((with_reducible refine gate_dst (N := 10) rfl ?_); refine Kd.R_lit (Kd.int .u8) _ 5 (by rfl) (N := 10) (by rfl) (xs := ([] : List Int)) (inner := []) (ok := fun _ => True) (okp := fun _ => True) Z7 (Reps.none _ _) (fun _ hk => hk) trivial (Below.refl _ _) (Nat.le_refl _) (by simp) ?_; intro v546 w3 ho4 hb hg_ hnew_; clear hg_ hnew_; (first | rw [← Ny545.out] at ho4 | (simp only [Int.reduceToNat] at ho4; rw [← Ny545.out] at ho4)); have HO547 := Z (Kd.R_lower ho4 (below_size Z63)); replace HB := Z (below_step Z63 hb); clear hb ho4))
  go_loopg [3, 4] k (fun kq v3 v4 w' => ∃ (x3_1 : List Int) (x4_1 : Int), v4 = .int .i64 x4_1 ∧ Aside0 (spec_UnpackOne.l0 kq a0 x3_1 x4_1 = some r) ∧ Aside0 (kq ≤ k) ∧ Aside0 (Kd.R (Kd.int .u8) 5 w' w.heap.size (fun _ => True) v3 x3_1) ∧ Aside0 (Below w.heap.size w w'))
  case atStart => exact ⟨(y545), (28), Z2, H', ⟨Nat.le_refl _⟩, ⟨(Z12 HO547)⟩, ⟨Z63⟩⟩
  case round =>
   clear H'
   try clear c2
   try clear c2b0
   try clear p2
   obtain ⟨x3_1, x4_1, rfl, HA, HK1, HO_3, HB⟩ := hrel
   cases gk with
   | zero => exact absurd HA.out (by simp [spec_UnpackOne.l0])
   | succ k1 =>
    have H := HA.out
    clear HA
    simp only [spec_UnpackOne.l0] at H
    have HC5 := Aside0.mk H
    clear H
    go_upto_region 5 with (fail)
    go_cut [22] (fun v22 wc => ∃ (kq : Nat) (x22_4 : Bool), v22 = .bool x22_4 ∧ Aside0 (spec_UnpackOne.j1 kq a0 x3_1 x4_1 x22_4 = some r) ∧ Aside0 (kq ≤ k1) ∧ Aside0 (Kd.R (Kd.int .u8) 5 wc w.heap.size (fun _ => True) u3 x3_1) ∧ Aside0 (Below w.heap.size w wc))
    case first =>
     have H := HC5.out
     clear HC5
     by_cases c6 : x4_1 > 0
     ·rw [if_pos c6] at H
      have c6b0 : decide (0 < x4_1) = true := decide_eq_true c6
      clear c6
      (first | rw [c6b0] | (simp only [i64_w, i32_w]; rw [c6b0]) | skip)
      obtain ⟨ji7, hji7⟩ : ∃ j_ : Int, (IntKind.u64.wrap (x4_1)) = j_ := ⟨_, rfl⟩
      replace H : (if 0 ≤ (ji7) then (spec_UnpackOne.j1 k1 a0 x3_1 x4_1 ((Go.bits .and .i64 (wrap64 (a0)) (wrap64 ((shl .i64 1 (ji7)) - 1))) != 0)) else (none)) = some r := by first | (rw [hji7] at H; exact H) | (simp only [hji7] at H ⊢; exact H)
      by_cases c8 : 0 ≤ (ji7)
      ·rw [if_pos c8] at H
       have c8b0 := eq_true c8
       have c8b1 : decide (0 ≤ (ji7)) = true := decide_eq_true c8
       clear c8
       obtain ⟨ji9, hji9⟩ : ∃ j_ : Int, (shl .i64 1 (ji7)) = j_ := ⟨_, rfl⟩
       replace H : (spec_UnpackOne.j1 k1 a0 x3_1 x4_1 ((Go.bits .and .i64 (wrap64 (a0)) (wrap64 ((ji9) - 1))) != 0)) = some r := Z13
       have hji9_ : (IntKind.i64.wrap (1 * 2 ^ min (ji7).toNat 64)) = ji9 := hji9
       have hji9z : (ji7) ≤ 64 → (IntKind.i64.wrap (1 * 2 ^ (ji7).toNat)) = ji9 := shl_small hji9
       have hji9u : (IntKind.i64.wrap (2 ^ min (ji7).toNat 64)) = ji9 := by have h_ := hji9_; rw [Int.one_mul] at h_; exact h_
       have hji9v : (ji7) ≤ 64 → (IntKind.i64.wrap (2 ^ (ji7).toNat)) = ji9 := fun hle_ => by have h_ := hji9z hle_; rw [Int.one_mul] at h_; exact h_
       have hji9y : (wrap64 (1 * 2 ^ min (ji7).toNat 64)) = ji9 := (i64_w _).symm.trans hji9_
       have hji9x : (ji7) ≤ 64 → (wrap64 (1 * 2 ^ (ji7).toNat)) = ji9 := fun h_ => (i64_w _).symm.trans (hji9z h_)
       have H' := Aside0.mk H
       clear H
       go_wp2
       go_meet
       case rel => exact ⟨_, (((Go.bits .and .i64 (wrap64 (a0)) (wrap64 ((ji9) - 1))) != 0)), (by first | rfl | (simp; done) | (simp only [← hji9] <;> (first | rfl | simp)) | (simp [*]; done)), H', ⟨by have := HK1.out; first | omega | exact Nat.le_refl _⟩, ⟨(Z12 HO_3)⟩, ⟨Z63⟩⟩
      ·rw [if_neg c8] at H
       exact absurd H (by simp)
     ·rw [if_neg c6] at H
      have c6b0 : decide (0 < x4_1) = false := decide_eq_false c6
      clear c6
      (first | rw [c6b0] | (simp only [i64_w, i32_w]; rw [c6b0]) | skip)
      have H' := Aside0.mk H
      clear H
      go_wp2
      go_meet
      case rel => exact ⟨_, (false), Z2, H', ⟨by have := HK1.out; first | omega | exact Nat.le_refl _⟩, ⟨(Z12 HO_3)⟩, ⟨Z63⟩⟩
    case rest =>
     clear HC5
     try clear c2
     try clear c2b0
     try clear p2
     try clear c6
     try clear c6b0
     try clear p6
     try clear c8
     try clear c8b0
     try clear c8b1
     try clear c9
     try clear p2
     obtain ⟨kq, x22_4, rfl, HA, HJ4, HO_3, HB⟩ := hcut
     cases kq with
     | zero => exact absurd HA.out (by simp [spec_UnpackOne.j1])
     | succ kj4 =>
      have H := HA.out
      clear HA
      simp only [spec_UnpackOne.j1] at H
      by_cases c10 : x22_4 = true
      ·subst c10
       have H1 : ((spec_Decode.f kj4 a0 x4_1).bind fun bt548 => (if bt548.1 < 1 then (some (strOfNums x3_1)) else ((spec_LetterAt.f bt548.1).bind fun t550 => (if x3_1.length < 140737488355328 then (spec_UnpackOne.l0 kj4 a0 (x3_1 ++ [t550]) (wrap64 (x4_1 - bt548.2))) else (none))))) = some r := Z11
       clear H
       have H := H1
       clear H1
       replace H := Option.bind_eq_some_iff.mp H
       obtain ⟨⟨t548, t549⟩, A110, H⟩ := H
       replace H : (if t548 < 1 then (some (strOfNums x3_1)) else ((spec_LetterAt.f t548).bind fun t550 => (if x3_1.length < 140737488355328 then (spec_UnpackOne.l0 kj4 a0 (x3_1 ++ [t550]) (wrap64 (x4_1 - t549))) else (none)))) = some r := H
       have A11 := Aside0.mk A110
       clear A110
       by_cases c12 : t548 < 1
       ·rw [if_pos c12] at H
        have c12b0 : decide (t548 < 1) = true := decide_eq_true c12
        clear c12
        obtain rfl := Option.some.inj H
        go_wp2_with (first | ((with_reducible refine gate_callee (f := 117) rfl ?_); refine goesL_ (some 26) rfl rfl Try.func117 Z0 rfl #[.int .u32 a0, .int .i64 x4_1] rfl Z10 ?_; (with_reducible refine (spec_Decode.calls kj4 a0 x4_1 t548 t549 _ A11.out).mono ?_); rintro e w' ⟨rfl, ⟨nd, rfl⟩⟩; refine ⟨_, rfl, ?_⟩; have hcv13 := own_string (P := Try.prog) Try.underlying22 Try.underlying5 Try.underlying9 (Kd.own_of_R HO_3.out); have hcw13 := fun nq_ : Nat => own_string (P := Try.prog) Try.underlying22 Try.underlying5 Try.underlying9 (Kd.own_of_R (Kd.R_drewN HO_3.out nq_))))
        go_ret
        exact ⟨Z9, Z63⟩
       ·rw [if_neg c12] at H
        have c12b0 : decide (t548 < 1) = false := decide_eq_false c12
        clear c12
        replace H := Option.bind_eq_some_iff.mp H
        obtain ⟨t550, A140, H⟩ := H
        replace H : (if x3_1.length < 140737488355328 then (spec_UnpackOne.l0 kj4 a0 (x3_1 ++ [t550]) (wrap64 (x4_1 - t549))) else (none)) = some r := H
        have A14 := Aside0.mk A140
        clear A140
        by_cases c15 : x3_1.length < 140737488355328
        ·rw [if_pos c15] at H
         have LMc15 := Aside0.mk c15
         clear c15
         obtain ⟨y551, hy551⟩ : ∃ y_ : List Int, y_ = (x3_1 ++ [t550]) := ⟨_, rfl⟩
         replace H : (spec_UnpackOne.l0 kj4 a0 y551 (wrap64 (x4_1 - t549))) = some r := by first | (rw [hy551]; with_reducible exact H) | (have H2_ := (Option.bind_some _ _).symm.trans H; rw [hy551]; with_reducible exact H2_) | (have H2_ := (Option.bind_some _ _).symm.trans H; with_reducible exact H2_) | with_reducible exact H | (rw [hy551]; exact H) | exact H
         have Ny551 := Aside0.mk hy551
         clear hy551
         have H' := Aside0.mk H
         clear H
         go_wp2_with (first | ((with_reducible refine gate_callee (f := 117) rfl ?_); refine goesL_ (some 26) rfl rfl Try.func117 Z0 rfl #[.int .u32 a0, .int .i64 x4_1] rfl Z10 ?_; (with_reducible refine (spec_Decode.calls kj4 a0 x4_1 t548 t549 _ A11.out).mono ?_); rintro e w' ⟨rfl, ⟨nd, rfl⟩⟩; refine ⟨_, rfl, ?_⟩) | ((with_reducible refine gate_callee (f := 118) rfl ?_); refine goesL_ (some 33) rfl rfl Try.func118 Z0 rfl #[.int .i64 t548] rfl Z10 ?_; (with_reducible refine (spec_LetterAt.calls t548 t550 _ A14.out).mono ?_); rintro e w' ⟨rfl, ⟨nd, rfl⟩⟩; refine ⟨_, rfl, ?_⟩) | ((with_reducible refine gate_builtin (b := .append) (xs := #[.tmp 31, .tmp 34]) rfl ?_); at_builtin; refine Kd.R_append (Kd.int .u8) (w0 := w) w.heap.size rfl (.tmp 31) (.tmp 34) 22 5 (.int .u8 0) 1 rfl Try.underlying22 info5 rfl (by decide) (by omega) u3 x3_1 t550 [.int .u8 t550] (fun _ => True) (fun _ => False) rfl rfl ?aP (fun _ hk => hk.elim) ?aF ?aO ?aB ?aS ?aL ?_; (case aP => exact rfl); (case aB => exact Z63); (case aF => exact (fun _ _ => trivial)); (case aO => exact (Z12 HO_3)); (case aS => exact (below_size Z63)); (case aL => have := LMc15.out; omega); intro v552 w16 ho hb hg hat; rw [← Ny551.out] at ho; replace HB := Z (hb); have HO553 := Z (ho); clear HO_3; clear ho hb hg hat))
         go_roundg kj4
         case measure => have := HK1.out; have := HJ4.out; omega
         case rel => exact ⟨(y551), (wrap64 (x4_1 - t549)), Z2, H', ⟨by have := HK1.out; have := HJ4.out; omega⟩, ⟨(Z12 HO553)⟩, ⟨Z63⟩⟩
        ·rw [if_neg c15] at H
         exact absurd H (by simp)
      ·replace c10 := Bool.eq_false_iff.mpr c10
       subst c10
       have H1 : (some (strOfNums x3_1)) = some r := by rw [if_neg (show ¬ (false = true) by decide)] at H; exact H
       clear H
       have H := H1
       clear H1
       obtain rfl := Option.some.inj H
       have hcv17 := own_string (P := Try.prog) Try.underlying22 Try.underlying5 Try.underlying9 (Kd.own_of_R HO_3.out)
       have hcw17 := fun nq_ : Nat => own_string (P := Try.prog) Try.underlying22 Try.underlying5 Try.underlying9 (Kd.own_of_R (Kd.R_drewN HO_3.out nq_))
       go_wp2
       go_ret
       exact ⟨Z9, Z63⟩

/-! ### spec_l03Same: function 126 -/
def spec_l03Same.l0 : Nat → List Int → List Int → Int → Option (Bool)
 | 0, _, _, _ => none
 | k + 1, x0, x1, x5 => if x5 < (x0.length : Int) then (if 0 ≤ x5 then (if x5 < (x1.length : Int) then (if (rd x0 x5) = (rd x1 x5) then (spec_l03Same.l0 k x0 x1 (wrap64 (x5 + 1))) else (some false)) else (none)) else (none)) else (some true)
def spec_l03Same.f (k : Nat) (l0 : List Int) (l1 : List Int) : Option (Bool) := if (l0.length : Int) = (l1.length : Int) then (spec_l03Same.l0 k l0 l1 0) else (some false)
theorem spec_l03Same.mono_l : ∀ k, (∀ y0 y1 y2, LeO (spec_l03Same.l0 k y0 y1 y2) (spec_l03Same.l0 (k + 1) y0 y1 y2))
 | 0 => fun _ _ _ r h => by simp [spec_l03Same.l0] at h
 | k + 1 => by
  have ih0 := spec_l03Same.mono_l k
  ·intro y0 y1 y2
   unfold spec_l03Same.l0
   repeat' first
   | (with_reducible exact ih0 _ _ _)
   | (with_reducible exact LeO.refl _)
   | (with_reducible exact LeO.none _)
   | (with_reducible refine LeO.ite ?_ ?_)
   | (with_reducible refine LeO.bind ?_ (fun _ => ?_))
   | exact ih0 _ _ _
   | exact LeO.none _
   | refine LeO.ite ?_ ?_
   | refine LeO.bind ?_ (fun _ => ?_)
theorem spec_l03Same.mono : ∀ a0 a1 k, LeO (spec_l03Same.f k a0 a1) (spec_l03Same.f (k + 1) a0 a1) := by
 intro a0 a1 k
 have ih0 := spec_l03Same.mono_l k
 unfold spec_l03Same.f
 repeat' first
   | (with_reducible exact ih0 _ _ _)
   | (with_reducible exact LeO.refl _)
   | (with_reducible exact LeO.none _)
   | (with_reducible refine LeO.ite ?_ ?_)
   | (with_reducible refine LeO.bind ?_ (fun _ => ?_))
   | exact ih0 _ _ _
   | exact LeO.none _
   | refine LeO.ite ?_ ?_
   | refine LeO.bind ?_ (fun _ => ?_)
set_option maxHeartbeats 8000000 in
set_option maxRecDepth 100000 in
theorem spec_l03Same.calls (k : Nat) (A0 : Option Addr) (c0 : Nat) (l0 : List Int) (A1 : Option Addr) (c1 : Nat) (l1 : List Int) (r : Bool) (w : World) (hr0 : Kd.C (Kd.int .u32) w A0 l0.length l0) (hc0 : l0.length ≤ c0) (hr1 : Kd.C (Kd.int .u32) w A1 l1.length l1) (hc1 : l1.length ≤ c1) (h : spec_l03Same.f k l0 l1 = some r) :
  Calls Try.prog 126 #[.slice A0 l0.length c0, .slice A1 l1.length c1] w fun e w' => e = .returned (.bool r) ∧ Drawn0 w w' := by
 have HR0 := Aside0.mk hr0
 have HC0 := Aside0.mk hc0
 clear hr0 hc0
 have HR1 := Aside0.mk hr1
 have HC1 := Aside0.mk hc1
 clear hr1 hc1
 have H : (if (l0.length : Int) = (l1.length : Int) then (spec_l03Same.l0 k l0 l1 0) else (some false)) = some r := h
 clear h
 by_cases c3 : (l0.length : Int) = (l1.length : Int)
 ·rw [if_pos c3] at H
  have c3b0 : ((l0.length : Int) == (l1.length : Int)) = true := beq_iff_eq.mpr c3
  have c3b1 : ((l0.length : Int) != (l1.length : Int)) = false := bne_eq_false_iff_eq.mpr c3
  have c3b2 : (l0.length == l1.length) = true := Z26
  clear c3
  have H' := Aside0.mk H
  clear H
  go_enter Try.func126, Try.ntmps126
  go_wp2
  repeat (go_quiet (fail); try go_wp2)
  go_loopg [5] k (fun kq v5 w' => ∃ (x5_1 : Int), v5 = .int .i64 x5_1 ∧ Aside0 (spec_l03Same.l0 kq l0 l1 x5_1 = some r) ∧ Aside0 (kq ≤ k) ∧ Drawn0 w w')
  case atStart => exact ⟨(0), Z2, H', ⟨Nat.le_refl _⟩, Z3⟩
  case round =>
   clear H'
   try clear c1
   try clear p2
   try clear c3
   try clear c3b0
   try clear c3b1
   try clear c3b2
   obtain ⟨x5_1, rfl, HA, HK1, ⟨m1, rfl⟩⟩ := hrel
   cases gk with
   | zero => exact absurd HA.out (by simp [spec_l03Same.l0])
   | succ k1 =>
    have H := HA.out
    clear HA
    simp only [spec_l03Same.l0] at H
    by_cases c4 : x5_1 < (l0.length : Int)
    ·rw [if_pos c4] at H
     have c4b0 : decide (x5_1 < (l0.length : Int)) = true := decide_eq_true c4
     clear c4
     by_cases c5 : 0 ≤ x5_1
     ·rw [if_pos c5] at H
      have c5b0 : decide (0 ≤ x5_1) = true := decide_eq_true c5
      clear c5
      by_cases c6 : x5_1 < (l1.length : Int)
      ·rw [if_pos c6] at H
       have c6b0 : decide (x5_1 < (l1.length : Int)) = true := decide_eq_true c6
       clear c6
       by_cases c7 : (rd l0 x5_1) = (rd l1 x5_1)
       ·rw [if_pos c7] at H
        have c7b0 : ((rd l0 x5_1) == (rd l1 x5_1)) = true := beq_iff_eq.mpr c7
        have c7b1 : ((rd l0 x5_1) != (rd l1 x5_1)) = false := bne_eq_false_iff_eq.mpr c7
        clear c7
        have H' := Aside0.mk H
        clear H
        have p554 : 0 ≤ (x5_1 : Int) := of_decide_eq_true Z5
        have q554 : x5_1 < (l0.length : Int) := of_decide_eq_true Z5
        obtain ⟨ad554, e554, hx554_0⟩ := Kd.at_int HR0.out x5_1 p554 q554
        cases e554
        replace p554 := eq_true p554
        replace q554 := eq_true q554
        have p555 : 0 ≤ (x5_1 : Int) := of_decide_eq_true Z5
        have q555 : x5_1 < (l1.length : Int) := of_decide_eq_true Z5
        obtain ⟨ad555, e555, hx555_0⟩ := Kd.at_int HR1.out x5_1 p555 q555
        cases e555
        replace p555 := eq_true p555
        replace q555 := eq_true q555
        go_wp2
        repeat (go_quiet (fail); try go_wp2)
        go_roundg k1
        case measure => have := HK1.out; omega
        case rel => exact ⟨(wrap64 (x5_1 + 1)), Z2, H', ⟨Z6⟩, Z3⟩
       ·rw [if_neg c7] at H
        have c7b0 : ((rd l0 x5_1) == (rd l1 x5_1)) = false := beq_eq_false_iff_ne.mpr c7
        have c7b1 : ((rd l0 x5_1) != (rd l1 x5_1)) = true := bne_iff_ne.mpr c7
        obtain rfl := Option.some.inj H
        have p554 : 0 ≤ (x5_1 : Int) := of_decide_eq_true Z5
        have q554 : x5_1 < (l0.length : Int) := of_decide_eq_true Z5
        obtain ⟨ad554, e554, hx554_0⟩ := Kd.at_int HR0.out x5_1 p554 q554
        cases e554
        replace p554 := eq_true p554
        replace q554 := eq_true q554
        have p555 : 0 ≤ (x5_1 : Int) := of_decide_eq_true Z5
        have q555 : x5_1 < (l1.length : Int) := of_decide_eq_true Z5
        obtain ⟨ad555, e555, hx555_0⟩ := Kd.at_int HR1.out x5_1 p555 q555
        cases e555
        replace p555 := eq_true p555
        replace q555 := eq_true q555
        go_wp2
        repeat (go_quiet (fail); try go_wp2)
        go_ret
        exact ⟨Z2, Z3⟩
      ·rw [if_neg c6] at H
       exact absurd H (by simp)
     ·rw [if_neg c5] at H
      exact absurd H (by simp)
    ·rw [if_neg c4] at H
     have c4b0 : decide (x5_1 < (l0.length : Int)) = false := decide_eq_false c4
     clear c4
     obtain rfl := Option.some.inj H
     go_wp2
     repeat (go_quiet (fail); try go_wp2)
     go_ret
     exact ⟨Z2, Z3⟩
 ·rw [if_neg c3] at H
  have c3b0 : ((l0.length : Int) == (l1.length : Int)) = false := beq_eq_false_iff_ne.mpr c3
  have c3b1 : ((l0.length : Int) != (l1.length : Int)) = true := bne_iff_ne.mpr c3
  have c3b2 : (l0.length == l1.length) = false := Z26
  obtain rfl := Option.some.inj H
  go_enter Try.func126, Try.ntmps126
  go_wp2
  repeat (go_quiet (fail); try go_wp2)
  go_ret
  exact ⟨Z2, Z3⟩

/-! ### spec_Unpack: function 115 -/
def spec_Unpack.l0 : Nat → List Int → ByteArray → Int → Option (ByteArray × Bool)
 | 0, _, _, _ => none
 | k + 1, x0, x4, x5 => if x5 < (x0.length : Int) then (if 0 ≤ x5 then ((spec_UnpackOne.f k (rd x0 x5)).bind fun t557 => (if x4.size + t557.size ≤ 9223372036854775807 then (spec_Unpack.l0 k x0 (x4 ++ t557) (wrap64 (x5 + 1))) else (none))) else (none)) else ((spec_NameOk.f k x4).bind fun t558 => (if t558 = true then ((spec_Pack.f k x4).bind fun t559 => ((spec_l03Same.f k t559 x0).bind fun t562 => (if t562 = true then (some (x4, true)) else (some ((⟨#[]⟩ : ByteArray), false))))) else (some ((⟨#[]⟩ : ByteArray), false))))
def spec_Unpack.f (k : Nat) (l0 : List Int) : Option (ByteArray × Bool) := if (l0.length : Int) > 24 then (some ((⟨#[]⟩ : ByteArray), false)) else (spec_Unpack.l0 k l0 (⟨#[]⟩ : ByteArray) 0)
theorem spec_Unpack.mono_l : ∀ k, (∀ y0 y1 y2, LeO (spec_Unpack.l0 k y0 y1 y2) (spec_Unpack.l0 (k + 1) y0 y1 y2))
 | 0 => fun _ _ _ r h => by simp [spec_Unpack.l0] at h
 | k + 1 => by
  have ih0 := spec_Unpack.mono_l k
  ·intro y0 y1 y2
   unfold spec_Unpack.l0
   repeat' first
   | (with_reducible exact ih0 _ _ _)
   | (with_reducible exact spec_NameOk.mono _ _)
   | (with_reducible exact spec_Pack.mono _ _)
   | (with_reducible exact spec_UnpackOne.mono _ _)
   | (with_reducible exact spec_l03Same.mono _ _ _)
   | (with_reducible exact LeO.refl _)
   | (with_reducible exact LeO.none _)
   | (with_reducible refine LeO.ite ?_ ?_)
   | (with_reducible refine LeO.bind ?_ (fun _ => ?_))
   | exact ih0 _ _ _
   | exact spec_NameOk.mono _ _
   | exact spec_Pack.mono _ _
   | exact spec_UnpackOne.mono _ _
   | exact spec_l03Same.mono _ _ _
   | exact LeO.none _
   | refine LeO.ite ?_ ?_
   | refine LeO.bind ?_ (fun _ => ?_)
theorem spec_Unpack.mono : ∀ a0 k, LeO (spec_Unpack.f k a0) (spec_Unpack.f (k + 1) a0) := by
 intro a0 k
 have ih0 := spec_Unpack.mono_l k
 unfold spec_Unpack.f
 repeat' first
   | (with_reducible exact ih0 _ _ _)
   | (with_reducible exact spec_NameOk.mono _ _)
   | (with_reducible exact spec_Pack.mono _ _)
   | (with_reducible exact spec_UnpackOne.mono _ _)
   | (with_reducible exact spec_l03Same.mono _ _ _)
   | (with_reducible exact LeO.refl _)
   | (with_reducible exact LeO.none _)
   | (with_reducible refine LeO.ite ?_ ?_)
   | (with_reducible refine LeO.bind ?_ (fun _ => ?_))
   | exact ih0 _ _ _
   | exact spec_NameOk.mono _ _
   | exact spec_Pack.mono _ _
   | exact spec_UnpackOne.mono _ _
   | exact spec_l03Same.mono _ _ _
   | exact LeO.none _
   | refine LeO.ite ?_ ?_
   | refine LeO.bind ?_ (fun _ => ?_)
set_option maxHeartbeats 8000000 in
set_option maxRecDepth 100000 in
theorem spec_Unpack.calls (k : Nat) (A0 : Option Addr) (c0 : Nat) (l0 : List Int) (r1 : ByteArray) (r2 : Bool) (w : World) (hr0 : Kd.C (Kd.int .u32) w A0 l0.length l0) (hc0 : l0.length ≤ c0) (h : spec_Unpack.f k l0 = some (r1, r2)) :
  Calls Try.prog 115 #[.slice A0 l0.length c0] w fun e w' => e = .returned (.tuple #[.string r1, .bool r2]) ∧ Below w.heap.size w w' := by
 have HR0 := Aside0.mk hr0
 have HC0 := Aside0.mk hc0
 clear hr0 hc0
 have HB := Z (Below.refl w.heap.size w)
 have H : (if (l0.length : Int) > 24 then (some ((⟨#[]⟩ : ByteArray), false)) else (spec_Unpack.l0 k l0 (⟨#[]⟩ : ByteArray) 0)) = some (r1, r2) := h
 clear h
 by_cases c2 : (l0.length : Int) > 24
 ·rw [if_pos c2] at H
  have c2b0 : decide (24 < (l0.length : Int)) = true := decide_eq_true c2
  have c2b1 : decide (24 < l0.length) = true := decide_eq_true (by omega)
  clear c2
  simp only [Option.some.injEq, Prod.mk.injEq] at H
  obtain ⟨rfl, rfl⟩ := H
  go_enter Try.func115, Try.ntmps115
  go_wp2
  go_ret2
  exact ⟨Z9, Z63⟩
 ·rw [if_neg c2] at H
  have c2b0 : decide (24 < (l0.length : Int)) = false := decide_eq_false c2
  have c2b1 : decide (24 < l0.length) = false := decide_eq_false (by omega)
  clear c2
  have H' := Aside0.mk H
  clear H
  go_enter Try.func115, Try.ntmps115
  go_wp2
  go_loopg [4, 5] k (fun kq v4 v5 w' => ∃ (x4_1 : ByteArray) (x5_1 : Int), v4 = .string x4_1 ∧ v5 = .int .i64 x5_1 ∧ Aside0 (spec_Unpack.l0 kq l0 x4_1 x5_1 = some (r1, r2)) ∧ Aside0 (kq ≤ k) ∧ Aside0 (Below w.heap.size w w'))
  case atStart => exact ⟨((⟨#[]⟩ : ByteArray)), (0), Z2, Z2, H', ⟨Nat.le_refl _⟩, ⟨Z63⟩⟩
  case round =>
   clear H'
   try clear c1
   try clear c2
   try clear c2b0
   try clear c2b1
   try clear p2
   obtain ⟨x4_1, x5_1, rfl, rfl, HA, HK1, HB⟩ := hrel
   cases gk with
   | zero => exact absurd HA.out (by simp [spec_Unpack.l0])
   | succ k1 =>
    have H := HA.out
    clear HA
    simp only [spec_Unpack.l0] at H
    by_cases c3 : x5_1 < (l0.length : Int)
    ·rw [if_pos c3] at H
     have c3b0 : decide (x5_1 < (l0.length : Int)) = true := decide_eq_true c3
     clear c3
     by_cases c4 : 0 ≤ x5_1
     ·rw [if_pos c4] at H
      have c4b0 : decide (0 ≤ x5_1) = true := decide_eq_true c4
      clear c4
      replace H := Option.bind_eq_some_iff.mp H
      obtain ⟨t557, A50, H⟩ := H
      replace H : (if x4_1.size + t557.size ≤ 9223372036854775807 then (spec_Unpack.l0 k1 l0 (x4_1 ++ t557) (wrap64 (x5_1 + 1))) else (none)) = some (r1, r2) := H
      have A5 := Aside0.mk A50
      clear A50
      by_cases c6 : x4_1.size + t557.size ≤ 9223372036854775807
      ·rw [if_pos c6] at H
       have c6b0 := eq_true c6
       have c6b1 : decide (x4_1.size + t557.size ≤ 9223372036854775807) = true := decide_eq_true c6
       try have c6b2 : (9223372036854775807 < x4_1.size + t557.size) = False := eq_false (Nat.not_lt.2 c6)
       have H' := Aside0.mk H
       clear H
       have p556 : 0 ≤ (x5_1 : Int) := of_decide_eq_true Z5
       have q556 : x5_1 < (l0.length : Int) := of_decide_eq_true Z5
       obtain ⟨ad556, e556, hx556_0⟩ := Kd.at_int HR0.out x5_1 p556 q556
       cases e556
       replace hx556_0 := (HB.out.cell (World.block_lt_of_cell? w _ hx556_0)).trans hx556_0
       replace p556 := eq_true p556
       replace q556 := eq_true q556
       go_wp2_with (first | ((with_reducible refine gate_callee (f := 97) rfl ?_); refine goesL_ (some 20) rfl rfl Try.func97 Z0 rfl #[.int .u32 (rd l0 x5_1)] rfl Z10 ?_; (with_reducible refine (spec_UnpackOne.calls k1 (rd l0 x5_1) t557 _ A5.out).mono ?_); rintro e w7 ⟨rfl, hb⟩; refine ⟨_, rfl, ?_⟩; replace HB := Z (below_step Z63 hb); (try clear hb); (try clear hb2); (try clear hk); (try clear hi)))
       go_roundg k1
       case measure => have := HK1.out; omega
       case rel => exact ⟨(x4_1 ++ t557), (wrap64 (x5_1 + 1)), Z2, Z2, H', ⟨Z6⟩, ⟨Z63⟩⟩
      ·rw [if_neg c6] at H
       exact absurd H (by simp)
     ·rw [if_neg c4] at H
      exact absurd H (by simp)
    ·rw [if_neg c3] at H
     have c3b0 : decide (x5_1 < (l0.length : Int)) = false := decide_eq_false c3
     clear c3
     replace H := Option.bind_eq_some_iff.mp H
     obtain ⟨t558, A80, H⟩ := H
     replace H : (if t558 = true then ((spec_Pack.f k1 x4_1).bind fun t559 => ((spec_l03Same.f k1 t559 l0).bind fun t562 => (if t562 = true then (some (x4_1, true)) else (some ((⟨#[]⟩ : ByteArray), false))))) else (some ((⟨#[]⟩ : ByteArray), false))) = some (r1, r2) := H
     have A8 := Aside0.mk A80
     clear A80
     by_cases c9 : t558 = true
     ·subst c9
      have H1 : ((spec_Pack.f k1 x4_1).bind fun t559 => ((spec_l03Same.f k1 t559 l0).bind fun t562 => (if t562 = true then (some (x4_1, true)) else (some ((⟨#[]⟩ : ByteArray), false))))) = some (r1, r2) := Z11
      clear H
      have H := H1
      clear H1
      replace H := Option.bind_eq_some_iff.mp H
      obtain ⟨t559, A100, H⟩ := H
      replace H : ((spec_l03Same.f k1 t559 l0).bind fun t562 => (if t562 = true then (some (x4_1, true)) else (some ((⟨#[]⟩ : ByteArray), false)))) = some (r1, r2) := H
      have A10 := Aside0.mk A100
      clear A100
      replace H := Option.bind_eq_some_iff.mp H
      obtain ⟨t562, A110, H⟩ := H
      replace H : (if t562 = true then (some (x4_1, true)) else (some ((⟨#[]⟩ : ByteArray), false))) = some (r1, r2) := H
      have A11 := Aside0.mk A110
      clear A110
      by_cases c12 : t562 = true
      ·subst c12
       have H1 : (some (x4_1, true)) = some (r1, r2) := Z11
       clear H
       have H := H1
       clear H1
       simp only [Option.some.injEq, Prod.mk.injEq] at H
       obtain ⟨rfl, rfl⟩ := H
       go_wp2_with (first | ((with_reducible refine gate_callee (f := 125) rfl ?_); refine goesL_ (some 23) rfl rfl Try.func125 Z0 rfl #[.string x4_1] rfl Z10 ?_; (with_reducible refine (spec_NameOk.calls k1 x4_1 true _ A8.out).mono ?_); rintro e w' ⟨rfl, ⟨nd, rfl⟩⟩; refine ⟨_, rfl, ?_⟩) | (go_at_call 116; (with_reducible refine (spec_Pack.calls k1 x4_1 t559 _ A10.out).mono ?_); rintro e w13 ⟨v560, rfl, ho0, hb⟩; have HO561 := Z (Kd.R_lower ho0 (below_size Z63)); replace HB := Z (below_step Z63 hb); (try clear hb); (try clear hb2); (try clear hk); (try clear hi); (try clear ho0); obtain ⟨Ao14, co14, eo14⟩ := Kd.R_slice HO561.out; subst eo14) | (go_at_call 126; (with_reducible refine (spec_l03Same.calls k1 _ _ t559 _ _ l0 true _ ?side1 ?side2 ?side3 ?side4 A11.out).mono ?_); (case side1 => exact (Z17 HO561)); (case side2 => exact (Kd.R_reads' HO561.out).2.1); (case side3 => exact (Z30 HR0)); (case side4 => exact HC0.out); rintro e w' ⟨rfl, ⟨nd, rfl⟩⟩))
       go_ret2
       exact ⟨Z9, Z63⟩
      ·replace c12 := Bool.eq_false_iff.mpr c12
       subst c12
       have H1 : (some ((⟨#[]⟩ : ByteArray), false)) = some (r1, r2) := by rw [if_neg (show ¬ (false = true) by decide)] at H; exact H
       clear H
       have H := H1
       clear H1
       simp only [Option.some.injEq, Prod.mk.injEq] at H
       obtain ⟨rfl, rfl⟩ := H
       go_wp2_with (first | ((with_reducible refine gate_callee (f := 125) rfl ?_); refine goesL_ (some 23) rfl rfl Try.func125 Z0 rfl #[.string x4_1] rfl Z10 ?_; (with_reducible refine (spec_NameOk.calls k1 x4_1 true _ A8.out).mono ?_); rintro e w' ⟨rfl, ⟨nd, rfl⟩⟩; refine ⟨_, rfl, ?_⟩) | (go_at_call 116; (with_reducible refine (spec_Pack.calls k1 x4_1 t559 _ A10.out).mono ?_); rintro e w15 ⟨v560, rfl, ho0, hb⟩; have HO561 := Z (Kd.R_lower ho0 (below_size Z63)); replace HB := Z (below_step Z63 hb); (try clear hb); (try clear hb2); (try clear hk); (try clear hi); (try clear ho0); obtain ⟨Ao16, co16, eo16⟩ := Kd.R_slice HO561.out; subst eo16) | (go_at_call 126; (with_reducible refine (spec_l03Same.calls k1 _ _ t559 _ _ l0 false _ ?side1 ?side2 ?side3 ?side4 A11.out).mono ?_); (case side1 => exact (Z17 HO561)); (case side2 => exact (Kd.R_reads' HO561.out).2.1); (case side3 => exact (Z30 HR0)); (case side4 => exact HC0.out); rintro e w' ⟨rfl, ⟨nd, rfl⟩⟩))
       go_ret2
       exact ⟨Z9, Z63⟩
     ·replace c9 := Bool.eq_false_iff.mpr c9
      subst c9
      have H1 : (some ((⟨#[]⟩ : ByteArray), false)) = some (r1, r2) := by rw [if_neg (show ¬ (false = true) by decide)] at H; exact H
      clear H
      have H := H1
      clear H1
      simp only [Option.some.injEq, Prod.mk.injEq] at H
      obtain ⟨rfl, rfl⟩ := H
      go_wp2_with (first | ((with_reducible refine gate_callee (f := 125) rfl ?_); refine goesL_ (some 23) rfl rfl Try.func125 Z0 rfl #[.string x4_1] rfl Z10 ?_; (with_reducible refine (spec_NameOk.calls k1 x4_1 false _ A8.out).mono ?_); rintro e w' ⟨rfl, ⟨nd, rfl⟩⟩; refine ⟨_, rfl, ?_⟩))
      go_ret2
      exact ⟨Z9, Z63⟩

/-! ### spec_l04Name: function 94 -/
def spec_l04Name.l0 : Nat → List Int → Int → List Int → Int → Option (Int × ByteArray × Int × Bool × Int × Int)
 | 0, _, _, _, _ => none
 | k + 1, x0, x2, x8, x9 => if x9 < (x0.length : Int) then (if 0 ≤ x9 then (if (Int.tmod (rd x0 x9) 16) = 0 then (if (rd x0 x9) = 0 then ((spec_Unpack.f k x8).bind fun bt570 => (if bt570.2 = true then (some (x2, bt570.1, 0, false, 0, (x8.length : Int))) else (some (0, (⟨#[]⟩ : ByteArray), 0, false, 0, 0)))) else (if x8.length < 35184372088832 then (spec_l04Name.l0 k x0 x2 (x8 ++ [(Int.tdiv (rd x0 x9) 16) % 4294967296]) (wrap64 (x9 + 1))) else (none))) else ((spec_Unpack.f k x8).bind fun bt576 => (if bt576.2 = true then (some (x2, bt576.1, 0, false, 0, (x8.length : Int))) else (some (0, (⟨#[]⟩ : ByteArray), 0, false, 0, 0))))) else (none)) else ((spec_Unpack.f k x8).bind fun bt578 => (if bt578.2 = true then (some (x2, bt578.1, 0, false, 0, (x8.length : Int))) else (some (0, (⟨#[]⟩ : ByteArray), 0, false, 0, 0))))
def spec_l04Name.f (k : Nat) (l0 : List Int) (a1 : Int) (a2 : Int) : Option (Int × ByteArray × Int × Bool × Int × Int) := if 0 ≤ a1 then (if a1 < (l0.length : Int) then (spec_l04Name.l0 k l0 a2 (([(Int.tdiv (rd l0 a1) 16) % 4294967296] : List Int)) (wrap64 (a1 + 1))) else (none)) else (none)
theorem spec_l04Name.mono_l : ∀ k, (∀ y0 y1 y2 y3, LeO (spec_l04Name.l0 k y0 y1 y2 y3) (spec_l04Name.l0 (k + 1) y0 y1 y2 y3))
 | 0 => fun _ _ _ _ r h => by simp [spec_l04Name.l0] at h
 | k + 1 => by
  have ih0 := spec_l04Name.mono_l k
  ·intro y0 y1 y2 y3
   unfold spec_l04Name.l0
   repeat' first
   | (with_reducible exact ih0 _ _ _ _)
   | (with_reducible exact spec_Unpack.mono _ _)
   | (with_reducible exact LeO.refl _)
   | (with_reducible exact LeO.none _)
   | (with_reducible refine LeO.ite ?_ ?_)
   | (with_reducible refine LeO.bind ?_ (fun _ => ?_))
   | exact ih0 _ _ _ _
   | exact spec_Unpack.mono _ _
   | exact LeO.none _
   | refine LeO.ite ?_ ?_
   | refine LeO.bind ?_ (fun _ => ?_)
theorem spec_l04Name.mono : ∀ a0 a1 a2 k, LeO (spec_l04Name.f k a0 a1 a2) (spec_l04Name.f (k + 1) a0 a1 a2) := by
 intro a0 a1 a2 k
 have ih0 := spec_l04Name.mono_l k
 unfold spec_l04Name.f
 repeat' first
   | (with_reducible exact ih0 _ _ _ _)
   | (with_reducible exact spec_Unpack.mono _ _)
   | (with_reducible exact LeO.refl _)
   | (with_reducible exact LeO.none _)
   | (with_reducible refine LeO.ite ?_ ?_)
   | (with_reducible refine LeO.bind ?_ (fun _ => ?_))
   | exact ih0 _ _ _ _
   | exact spec_Unpack.mono _ _
   | exact LeO.none _
   | refine LeO.ite ?_ ?_
   | refine LeO.bind ?_ (fun _ => ?_)
set_option maxHeartbeats 8000000 in
set_option maxRecDepth 100000 in
theorem spec_l04Name.calls (k : Nat) (A0 : Option Addr) (c0 : Nat) (l0 : List Int) (a1 : Int) (a2 : Int) (r1 : Int) (r2 : ByteArray) (r3 : Int) (r4 : Bool) (r5 : Int) (r6 : Int) (w : World) (hr0 : Kd.C (Kd.int .u32) w A0 l0.length l0) (hc0 : l0.length ≤ c0) (h : spec_l04Name.f k l0 a1 a2 = some (r1, r2, r3, r4, r5, r6)) :
  Calls Try.prog 94 #[.slice A0 l0.length c0, .int .i64 a1, .int .i64 a2] w fun e w' => e = .returned (.tuple #[.agg #[.int .i64 r1, .string r2, .int .i32 r3, .bool r4, .int .u32 r5], .int .i64 r6]) ∧ Below w.heap.size w w' := by
 have hu51 := Try.underlying51
 have HR0 := Aside0.mk hr0
 have HC0 := Aside0.mk hc0
 clear hr0 hc0
 have HB := Z (Below.refl w.heap.size w)
 have H : (if 0 ≤ a1 then (if a1 < (l0.length : Int) then (spec_l04Name.l0 k l0 a2 (([(Int.tdiv (rd l0 a1) 16) % 4294967296] : List Int)) (wrap64 (a1 + 1))) else (none)) else (none)) = some (r1, r2, r3, r4, r5, r6) := h
 clear h
 by_cases c4 : 0 ≤ a1
 ·rw [if_pos c4] at H
  have c4b0 : decide (0 ≤ a1) = true := decide_eq_true c4
  clear c4
  by_cases c5 : a1 < (l0.length : Int)
  ·rw [if_pos c5] at H
   have c5b0 : decide (a1 < (l0.length : Int)) = true := decide_eq_true c5
   clear c5
   obtain ⟨y565, hy565⟩ : ∃ y_ : List Int, y_ = (([(Int.tdiv (rd l0 a1) 16) % 4294967296] : List Int)) := ⟨_, rfl⟩
   replace H : (spec_l04Name.l0 k l0 a2 y565 (wrap64 (a1 + 1))) = some (r1, r2, r3, r4, r5, r6) := by first | (rw [hy565]; with_reducible exact H) | (have H2_ := (Option.bind_some _ _).symm.trans H; rw [hy565]; with_reducible exact H2_) | (have H2_ := (Option.bind_some _ _).symm.trans H; with_reducible exact H2_) | with_reducible exact H | (rw [hy565]; exact H) | exact H
   have Ny565 := Aside0.mk hy565
   clear hy565
   have H' := Aside0.mk H
   clear H
   go_enter Try.func94, Try.ntmps94
   go_wp2_with (first | ((with_reducible refine gate_dst (N := 6) rfl ?_); refine box_event (by rfl) (N := 6) (by rfl) (cs := #[.int .i64 0, .string (⟨#[]⟩ : ByteArray), .int .i32 0, .bool false, .int .u32 0]) (t := 51) Z7 ?_; intro gb563 hg w6 hbox hb; have BK563 := Z (hbox); have GW563 := Z ((Z76 : w.heap.size ≤ gb563)); have GE563 := Z ((Z76 : w.heap.size ≤ gb563)); replace HB := Z (below_step Z63 hb); clear hb hbox hg; have p564 : 0 ≤ (a1 : Int) := of_decide_eq_true Z5; have q564 : a1 < (l0.length : Int) := of_decide_eq_true Z5; obtain ⟨ad564, e564, hx564_0⟩ := Kd.at_int HR0.out a1 p564 q564; cases e564; replace hx564_0 := (HB.out.cell (World.block_lt_of_cell? w _ hx564_0)).trans hx564_0; replace p564 := eq_true p564; replace q564 := eq_true q564) | ((with_reducible refine gate_dst (N := 17) rfl ?_); refine Kd.R_lit (Kd.int .u32) _ 47 (by rfl) (N := 17) (by rfl) (xs := ([(Int.tdiv (rd l0 a1) 16) % 4294967296] : List Int)) (inner := [.int .u32 ((Int.tdiv (rd l0 a1) 16) % 4294967296)]) (ok := fun _ => True) (okp := fun _ => True) Z7 (Reps.one (show Kd.M (Kd.int .u32) _ _ _ ((Int.tdiv (rd l0 a1) 16) % 4294967296) [.int .u32 ((Int.tdiv (rd l0 a1) 16) % 4294967296)] from rfl) (Reps.none _ _)) (fun _ hk => hk) trivial (Below.refl _ _) (Nat.le_refl _) (by simp) ?_; intro v566 w7 ho8 hb hg_ hnew_; clear hg_ hnew_; (first | rw [← Ny565.out] at ho8 | (simp only [Int.reduceToNat] at ho8; rw [← Ny565.out] at ho8)); have HO567 := Z (Kd.R_lower ho8 (below_size Z63)); replace BK563 := Z (blk_below (g := gb563) (o := .cells #[.int .i64 0, .string (⟨#[]⟩ : ByteArray), .int .i32 0, .bool false, .int .u32 0] 51 (0, 0)) (Z8 BK563) hb); replace HB := Z (below_step Z63 hb); clear hb ho8))
   go_loopg [8, 9] k (fun kq v8 v9 w' => ∃ (x8_1 : List Int) (x9_1 : Int), v9 = .int .i64 x9_1 ∧ Aside0 (spec_l04Name.l0 kq l0 a2 x8_1 x9_1 = some (r1, r2, r3, r4, r5, r6)) ∧ Aside0 (kq ≤ k) ∧ Aside0 (Kd.R (Kd.int .u32) 47 w' w.heap.size (fun _ => True) v8 x8_1) ∧ Aside0 (w'.heap[gb563]? = some (.cells #[.int .i64 0, .string (⟨#[]⟩ : ByteArray), .int .i32 0, .bool false, .int .u32 0] 51 (0, 0))) ∧ Aside0 (Below w.heap.size w w'))
   case atStart => exact ⟨(y565), (wrap64 (a1 + 1)), Z2, H', ⟨Nat.le_refl _⟩, ⟨(Z12 HO567)⟩, ⟨(Z8 BK563)⟩, ⟨Z63⟩⟩
   case round =>
    clear H'
    try clear p2
    try clear c4
    try clear c4b0
    try clear c5
    try clear c5b0
    try clear p5
    try clear q5
    try clear hx5
    try clear p6
    try clear hx564_0
    try clear p564
    try clear q564
    obtain ⟨x8_1, x9_1, rfl, HA, HK1, HO_8, BK563, HB⟩ := hrel
    cases gk with
    | zero => exact absurd HA.out (by simp [spec_l04Name.l0])
    | succ k1 =>
     have H := HA.out
     clear HA
     simp only [spec_l04Name.l0] at H
     by_cases c9 : x9_1 < (l0.length : Int)
     ·rw [if_pos c9] at H
      have c9b0 : decide (x9_1 < (l0.length : Int)) = true := decide_eq_true c9
      clear c9
      by_cases c10 : 0 ≤ x9_1
      ·rw [if_pos c10] at H
       have c10b0 : decide (0 ≤ x9_1) = true := decide_eq_true c10
       clear c10
       by_cases c11 : (Int.tmod (rd l0 x9_1) 16) = 0
       ·rw [if_pos c11] at H
        have c11b0 : ((Int.tmod (rd l0 x9_1) 16) == 0) = true := beq_iff_eq.mpr c11
        have c11b1 : ((Int.tmod (rd l0 x9_1) 16) != 0) = false := bne_eq_false_iff_eq.mpr c11
        clear c11
        by_cases c12 : (rd l0 x9_1) = 0
        ·rw [if_pos c12] at H
         have c12b0 : ((rd l0 x9_1) == 0) = true := beq_iff_eq.mpr c12
         have c12b1 : ((rd l0 x9_1) != 0) = false := bne_eq_false_iff_eq.mpr c12
         clear c12
         replace H := Option.bind_eq_some_iff.mp H
         obtain ⟨⟨t570, t571⟩, A130, H⟩ := H
         replace H : (if t571 = true then (some (a2, t570, 0, false, 0, (x8_1.length : Int))) else (some (0, (⟨#[]⟩ : ByteArray), 0, false, 0, 0))) = some (r1, r2, r3, r4, r5, r6) := H
         have A13 := Aside0.mk A130
         clear A130
         by_cases c14 : t571 = true
         ·subst c14
          have H1 : (some (a2, t570, 0, false, 0, (x8_1.length : Int))) = some (r1, r2, r3, r4, r5, r6) := Z11
          clear H
          have H := H1
          clear H1
          simp only [Option.some.injEq, Prod.mk.injEq] at H
          obtain ⟨rfl, rfl, rfl, rfl, rfl, rfl⟩ := H
          have p568 : 0 ≤ (x9_1 : Int) := of_decide_eq_true Z5
          have q568 : x9_1 < (l0.length : Int) := of_decide_eq_true Z5
          obtain ⟨ad568, e568, hx568_0⟩ := Kd.at_int HR0.out x9_1 p568 q568
          obtain rfl : ad564 = ad568 := (by injection e568)
          replace hx568_0 := (HB.out.cell (World.block_lt_of_cell? w _ hx568_0)).trans hx568_0
          replace p568 := eq_true p568
          replace q568 := eq_true q568
          have p569 : 0 ≤ (x9_1 : Int) := of_decide_eq_true Z5
          have q569 : x9_1 < (l0.length : Int) := of_decide_eq_true Z5
          obtain ⟨ad569, e569, hx569_0⟩ := Kd.at_int HR0.out x9_1 p569 q569
          obtain rfl : ad564 = ad569 := (by injection e569)
          replace hx569_0 := (HB.out.cell (World.block_lt_of_cell? w _ hx569_0)).trans hx569_0
          replace p569 := eq_true p569
          replace q569 := eq_true q569
          obtain ⟨Ao15, co15, eo15⟩ := Kd.R_slice HO_8.out
          subst eo15
          go_wp2_with (first | ((with_reducible refine gate_callee (f := 115) rfl ?_); refine goesL_ (some 51) rfl rfl Try.func115 Z0 rfl #[.slice Ao15 x8_1.length co15] rfl Z10 ?_; (with_reducible refine (spec_Unpack.calls k1 _ _ x8_1 t570 true _ ?side1 ?side2 A13.out).mono ?_); (case side1 => exact (Z17 HO_8)); (case side2 => exact (Kd.R_reads' HO_8.out).2.1); rintro e w16 ⟨rfl, hb⟩; refine ⟨_, rfl, ?_⟩; replace HO_8 := Z (Kd.R_below (Z12 HO_8) hb); replace BK563 := Z (blk_below (g := gb563) (o := .cells #[.int .i64 0, .string (⟨#[]⟩ : ByteArray), .int .i32 0, .bool false, .int .u32 0] 51 (0, 0)) (Z8 BK563) hb); replace HB := Z (below_step Z63 hb); (try clear hb); (try clear hb2); (try clear hk); (try clear hi); have hcz17_0 : w16.cell? ⟨gb563, 0, none⟩ = some (.int .i64 0) := (blk_cell BK563.out 0).trans rfl; have hcz17_1 : w16.cell? ⟨gb563, 1, none⟩ = some (.string (⟨#[]⟩ : ByteArray)) := (blk_cell BK563.out 1).trans rfl; have hcz17_2 : w16.cell? ⟨gb563, 2, none⟩ = some (.int .i32 0) := (blk_cell BK563.out 2).trans rfl; have hcz17_3 : w16.cell? ⟨gb563, 3, none⟩ = some (.bool false) := (blk_cell BK563.out 3).trans rfl; have hcz17_4 : w16.cell? ⟨gb563, 4, none⟩ = some (.int .u32 0) := (blk_cell BK563.out 4).trans rfl; have hfz17_0 := blk_frozen BK563.out 0; have hfz17_1 := blk_frozen BK563.out 1; have hfz17_2 := blk_frozen BK563.out 2; have hfz17_3 := blk_frozen BK563.out 3; have hfz17_4 := blk_frozen BK563.out 4))
          refine bodyPost_ret (results_ct rfl _ _ gb563 51 #[.int .i64 a2, .string t570, .int .i32 0, .bool false, .int .u32 0] (0, 0) _ rfl (by (with_reducible repeat (first | refine blk_drewN ?_ _ | refine blk_drew ?_ | refine blk_alloc ?_ _)); refine blk_put (cs := #[.int .i64 a2, .string t570, .int .i32 0, .bool false, .int .u32 0]) ?_ 4 _ rfl; (with_reducible repeat (first | refine blk_drewN ?_ _ | refine blk_drew ?_ | refine blk_alloc ?_ _)); refine blk_put (cs := #[.int .i64 a2, .string t570, .int .i32 0, .bool false, .int .u32 0]) ?_ 3 _ rfl; (with_reducible repeat (first | refine blk_drewN ?_ _ | refine blk_drew ?_ | refine blk_alloc ?_ _)); refine blk_put (cs := #[.int .i64 a2, .string t570, .int .i32 0, .bool false, .int .u32 0]) ?_ 2 _ rfl; (with_reducible repeat (first | refine blk_drewN ?_ _ | refine blk_drew ?_ | refine blk_alloc ?_ _)); refine blk_put (cs := #[.int .i64 a2, .string (⟨#[]⟩ : ByteArray), .int .i32 0, .bool false, .int .u32 0]) ?_ 1 _ rfl; (with_reducible repeat (first | refine blk_drewN ?_ _ | refine blk_drew ?_ | refine blk_alloc ?_ _)); refine blk_put (cs := #[.int .i64 0, .string (⟨#[]⟩ : ByteArray), .int .i32 0, .bool false, .int .u32 0]) ?_ 0 _ rfl; (with_reducible repeat (first | refine blk_drewN ?_ _ | refine blk_drew ?_ | refine blk_alloc ?_ _)); exact BK563.out) Try.underlying51 rfl Z0) rfl ?_
          exact ⟨Z9, Z63⟩
         ·replace c14 := Bool.eq_false_iff.mpr c14
          subst c14
          have H1 : (some (0, (⟨#[]⟩ : ByteArray), 0, false, 0, 0)) = some (r1, r2, r3, r4, r5, r6) := by rw [if_neg (show ¬ (false = true) by decide)] at H; exact H
          clear H
          have H := H1
          clear H1
          simp only [Option.some.injEq, Prod.mk.injEq] at H
          obtain ⟨rfl, rfl, rfl, rfl, rfl, rfl⟩ := H
          have p568 : 0 ≤ (x9_1 : Int) := of_decide_eq_true Z5
          have q568 : x9_1 < (l0.length : Int) := of_decide_eq_true Z5
          obtain ⟨ad568, e568, hx568_0⟩ := Kd.at_int HR0.out x9_1 p568 q568
          obtain rfl : ad564 = ad568 := (by injection e568)
          replace hx568_0 := (HB.out.cell (World.block_lt_of_cell? w _ hx568_0)).trans hx568_0
          replace p568 := eq_true p568
          replace q568 := eq_true q568
          have p569 : 0 ≤ (x9_1 : Int) := of_decide_eq_true Z5
          have q569 : x9_1 < (l0.length : Int) := of_decide_eq_true Z5
          obtain ⟨ad569, e569, hx569_0⟩ := Kd.at_int HR0.out x9_1 p569 q569
          obtain rfl : ad564 = ad569 := (by injection e569)
          replace hx569_0 := (HB.out.cell (World.block_lt_of_cell? w _ hx569_0)).trans hx569_0
          replace p569 := eq_true p569
          replace q569 := eq_true q569
          obtain ⟨Ao18, co18, eo18⟩ := Kd.R_slice HO_8.out
          subst eo18
          go_wp2_with (first | ((with_reducible refine gate_callee (f := 115) rfl ?_); refine goesL_ (some 51) rfl rfl Try.func115 Z0 rfl #[.slice Ao18 x8_1.length co18] rfl Z10 ?_; (with_reducible refine (spec_Unpack.calls k1 _ _ x8_1 t570 false _ ?side1 ?side2 A13.out).mono ?_); (case side1 => exact (Z17 HO_8)); (case side2 => exact (Kd.R_reads' HO_8.out).2.1); rintro e w19 ⟨rfl, hb⟩; refine ⟨_, rfl, ?_⟩; replace HO_8 := Z (Kd.R_below (Z12 HO_8) hb); replace BK563 := Z (blk_below (g := gb563) (o := .cells #[.int .i64 0, .string (⟨#[]⟩ : ByteArray), .int .i32 0, .bool false, .int .u32 0] 51 (0, 0)) (Z8 BK563) hb); replace HB := Z (below_step Z63 hb); (try clear hb); (try clear hb2); (try clear hk); (try clear hi); have hcz20_0 : w19.cell? ⟨gb563, 0, none⟩ = some (.int .i64 0) := (blk_cell BK563.out 0).trans rfl; have hcz20_1 : w19.cell? ⟨gb563, 1, none⟩ = some (.string (⟨#[]⟩ : ByteArray)) := (blk_cell BK563.out 1).trans rfl; have hcz20_2 : w19.cell? ⟨gb563, 2, none⟩ = some (.int .i32 0) := (blk_cell BK563.out 2).trans rfl; have hcz20_3 : w19.cell? ⟨gb563, 3, none⟩ = some (.bool false) := (blk_cell BK563.out 3).trans rfl; have hcz20_4 : w19.cell? ⟨gb563, 4, none⟩ = some (.int .u32 0) := (blk_cell BK563.out 4).trans rfl; have hfz20_0 := blk_frozen BK563.out 0; have hfz20_1 := blk_frozen BK563.out 1; have hfz20_2 := blk_frozen BK563.out 2; have hfz20_3 := blk_frozen BK563.out 3; have hfz20_4 := blk_frozen BK563.out 4))
          refine bodyPost_ret (results_ct rfl _ _ gb563 51 #[.int .i64 0, .string (⟨#[]⟩ : ByteArray), .int .i32 0, .bool false, .int .u32 0] (0, 0) _ rfl (Z32 BK563) Try.underlying51 rfl Z0) rfl ?_
          exact ⟨Z9, Z63⟩
        ·rw [if_neg c12] at H
         have c12b0 : ((rd l0 x9_1) == 0) = false := beq_eq_false_iff_ne.mpr c12
         have c12b1 : ((rd l0 x9_1) != 0) = true := bne_iff_ne.mpr c12
         by_cases c21 : x8_1.length < 35184372088832
         ·rw [if_pos c21] at H
          have LMc21 := Aside0.mk c21
          clear c21
          obtain ⟨y573, hy573⟩ : ∃ y_ : List Int, y_ = (x8_1 ++ [(Int.tdiv (rd l0 x9_1) 16) % 4294967296]) := ⟨_, rfl⟩
          replace H : (spec_l04Name.l0 k1 l0 a2 y573 (wrap64 (x9_1 + 1))) = some (r1, r2, r3, r4, r5, r6) := by first | (rw [hy573]; with_reducible exact H) | (have H2_ := (Option.bind_some _ _).symm.trans H; rw [hy573]; with_reducible exact H2_) | (have H2_ := (Option.bind_some _ _).symm.trans H; with_reducible exact H2_) | with_reducible exact H | (rw [hy573]; exact H) | exact H
          have Ny573 := Aside0.mk hy573
          clear hy573
          have H' := Aside0.mk H
          clear H
          have p568 : 0 ≤ (x9_1 : Int) := of_decide_eq_true Z5
          have q568 : x9_1 < (l0.length : Int) := of_decide_eq_true Z5
          obtain ⟨ad568, e568, hx568_0⟩ := Kd.at_int HR0.out x9_1 p568 q568
          obtain rfl : ad564 = ad568 := (by injection e568)
          replace hx568_0 := (HB.out.cell (World.block_lt_of_cell? w _ hx568_0)).trans hx568_0
          replace p568 := eq_true p568
          replace q568 := eq_true q568
          have p569 : 0 ≤ (x9_1 : Int) := of_decide_eq_true Z5
          have q569 : x9_1 < (l0.length : Int) := of_decide_eq_true Z5
          obtain ⟨ad569, e569, hx569_0⟩ := Kd.at_int HR0.out x9_1 p569 q569
          obtain rfl : ad564 = ad569 := (by injection e569)
          replace hx569_0 := (HB.out.cell (World.block_lt_of_cell? w _ hx569_0)).trans hx569_0
          replace p569 := eq_true p569
          replace q569 := eq_true q569
          have p572 : 0 ≤ (x9_1 : Int) := of_decide_eq_true Z5
          have q572 : x9_1 < (l0.length : Int) := of_decide_eq_true Z5
          obtain ⟨ad572, e572, hx572_0⟩ := Kd.at_int HR0.out x9_1 p572 q572
          obtain rfl : ad564 = ad572 := (by injection e572)
          replace hx572_0 := (HB.out.cell (World.block_lt_of_cell? w _ hx572_0)).trans hx572_0
          replace p572 := eq_true p572
          replace q572 := eq_true q572
          go_wp2_with (first | ((with_reducible refine gate_builtin (b := .append) (xs := #[.tmp 41, .tmp 47]) rfl ?_); at_builtin; refine Kd.R_append (Kd.int .u32) (w0 := w) w.heap.size rfl (.tmp 41) (.tmp 47) 24 47 (.int .u32 0) 4 rfl Try.underlying24 info47 rfl (by decide) (by omega) u8 x8_1 ((Int.tdiv (rd l0 x9_1) 16) % 4294967296) [.int .u32 ((Int.tdiv (rd l0 x9_1) 16) % 4294967296)] (fun _ => True) (fun _ => False) rfl rfl ?aP (fun _ hk => hk.elim) ?aF ?aO ?aB ?aS ?aL ?_; (case aP => exact rfl); (case aB => exact Z63); (case aF => exact (fun _ _ => trivial)); (case aO => exact (Z12 HO_8)); (case aS => exact (below_size Z63)); (case aL => have := LMc21.out; omega); intro v574 w22 ho hb hg hat; rw [← Ny573.out] at ho; replace BK563 := Z (blk_grown (g := gb563) (o := .cells #[.int .i64 0, .string (⟨#[]⟩ : ByteArray), .int .i32 0, .bool false, .int .u32 0] 51 (0, 0)) (Z8 BK563) hg (Kd.R_ne HO_8.out BK563.out (by decide))); replace HB := Z (hb); have HO575 := Z (ho); clear HO_8; clear ho hb hg hat))
          go_roundg k1
          case measure => have := HK1.out; omega
          case rel => exact ⟨(y573), (wrap64 (x9_1 + 1)), Z2, H', ⟨Z6⟩, ⟨(Z12 HO575)⟩, ⟨(Z8 BK563)⟩, ⟨Z63⟩⟩
         ·rw [if_neg c21] at H
          exact absurd H (by simp)
       ·rw [if_neg c11] at H
        have c11b0 : ((Int.tmod (rd l0 x9_1) 16) == 0) = false := beq_eq_false_iff_ne.mpr c11
        have c11b1 : ((Int.tmod (rd l0 x9_1) 16) != 0) = true := bne_iff_ne.mpr c11
        replace H := Option.bind_eq_some_iff.mp H
        obtain ⟨⟨t576, t577⟩, A230, H⟩ := H
        replace H : (if t577 = true then (some (a2, t576, 0, false, 0, (x8_1.length : Int))) else (some (0, (⟨#[]⟩ : ByteArray), 0, false, 0, 0))) = some (r1, r2, r3, r4, r5, r6) := H
        have A23 := Aside0.mk A230
        clear A230
        by_cases c24 : t577 = true
        ·subst c24
         have H1 : (some (a2, t576, 0, false, 0, (x8_1.length : Int))) = some (r1, r2, r3, r4, r5, r6) := Z11
         clear H
         have H := H1
         clear H1
         simp only [Option.some.injEq, Prod.mk.injEq] at H
         obtain ⟨rfl, rfl, rfl, rfl, rfl, rfl⟩ := H
         have p568 : 0 ≤ (x9_1 : Int) := of_decide_eq_true Z5
         have q568 : x9_1 < (l0.length : Int) := of_decide_eq_true Z5
         obtain ⟨ad568, e568, hx568_0⟩ := Kd.at_int HR0.out x9_1 p568 q568
         obtain rfl : ad564 = ad568 := (by injection e568)
         replace hx568_0 := (HB.out.cell (World.block_lt_of_cell? w _ hx568_0)).trans hx568_0
         replace p568 := eq_true p568
         replace q568 := eq_true q568
         obtain ⟨Ao25, co25, eo25⟩ := Kd.R_slice HO_8.out
         subst eo25
         go_wp2_with (first | ((with_reducible refine gate_callee (f := 115) rfl ?_); refine goesL_ (some 51) rfl rfl Try.func115 Z0 rfl #[.slice Ao25 x8_1.length co25] rfl Z10 ?_; (with_reducible refine (spec_Unpack.calls k1 _ _ x8_1 t576 true _ ?side1 ?side2 A23.out).mono ?_); (case side1 => exact (Z17 HO_8)); (case side2 => exact (Kd.R_reads' HO_8.out).2.1); rintro e w26 ⟨rfl, hb⟩; refine ⟨_, rfl, ?_⟩; replace HO_8 := Z (Kd.R_below (Z12 HO_8) hb); replace BK563 := Z (blk_below (g := gb563) (o := .cells #[.int .i64 0, .string (⟨#[]⟩ : ByteArray), .int .i32 0, .bool false, .int .u32 0] 51 (0, 0)) (Z8 BK563) hb); replace HB := Z (below_step Z63 hb); (try clear hb); (try clear hb2); (try clear hk); (try clear hi); have hcz27_0 : w26.cell? ⟨gb563, 0, none⟩ = some (.int .i64 0) := (blk_cell BK563.out 0).trans rfl; have hcz27_1 : w26.cell? ⟨gb563, 1, none⟩ = some (.string (⟨#[]⟩ : ByteArray)) := (blk_cell BK563.out 1).trans rfl; have hcz27_2 : w26.cell? ⟨gb563, 2, none⟩ = some (.int .i32 0) := (blk_cell BK563.out 2).trans rfl; have hcz27_3 : w26.cell? ⟨gb563, 3, none⟩ = some (.bool false) := (blk_cell BK563.out 3).trans rfl; have hcz27_4 : w26.cell? ⟨gb563, 4, none⟩ = some (.int .u32 0) := (blk_cell BK563.out 4).trans rfl; have hfz27_0 := blk_frozen BK563.out 0; have hfz27_1 := blk_frozen BK563.out 1; have hfz27_2 := blk_frozen BK563.out 2; have hfz27_3 := blk_frozen BK563.out 3; have hfz27_4 := blk_frozen BK563.out 4))
         refine bodyPost_ret (results_ct rfl _ _ gb563 51 #[.int .i64 a2, .string t576, .int .i32 0, .bool false, .int .u32 0] (0, 0) _ rfl (by (with_reducible repeat (first | refine blk_drewN ?_ _ | refine blk_drew ?_ | refine blk_alloc ?_ _)); refine blk_put (cs := #[.int .i64 a2, .string t576, .int .i32 0, .bool false, .int .u32 0]) ?_ 4 _ rfl; (with_reducible repeat (first | refine blk_drewN ?_ _ | refine blk_drew ?_ | refine blk_alloc ?_ _)); refine blk_put (cs := #[.int .i64 a2, .string t576, .int .i32 0, .bool false, .int .u32 0]) ?_ 3 _ rfl; (with_reducible repeat (first | refine blk_drewN ?_ _ | refine blk_drew ?_ | refine blk_alloc ?_ _)); refine blk_put (cs := #[.int .i64 a2, .string t576, .int .i32 0, .bool false, .int .u32 0]) ?_ 2 _ rfl; (with_reducible repeat (first | refine blk_drewN ?_ _ | refine blk_drew ?_ | refine blk_alloc ?_ _)); refine blk_put (cs := #[.int .i64 a2, .string (⟨#[]⟩ : ByteArray), .int .i32 0, .bool false, .int .u32 0]) ?_ 1 _ rfl; (with_reducible repeat (first | refine blk_drewN ?_ _ | refine blk_drew ?_ | refine blk_alloc ?_ _)); refine blk_put (cs := #[.int .i64 0, .string (⟨#[]⟩ : ByteArray), .int .i32 0, .bool false, .int .u32 0]) ?_ 0 _ rfl; (with_reducible repeat (first | refine blk_drewN ?_ _ | refine blk_drew ?_ | refine blk_alloc ?_ _)); exact BK563.out) Try.underlying51 rfl Z0) rfl ?_
         exact ⟨Z9, Z63⟩
        ·replace c24 := Bool.eq_false_iff.mpr c24
         subst c24
         have H1 : (some (0, (⟨#[]⟩ : ByteArray), 0, false, 0, 0)) = some (r1, r2, r3, r4, r5, r6) := by rw [if_neg (show ¬ (false = true) by decide)] at H; exact H
         clear H
         have H := H1
         clear H1
         simp only [Option.some.injEq, Prod.mk.injEq] at H
         obtain ⟨rfl, rfl, rfl, rfl, rfl, rfl⟩ := H
         have p568 : 0 ≤ (x9_1 : Int) := of_decide_eq_true Z5
         have q568 : x9_1 < (l0.length : Int) := of_decide_eq_true Z5
         obtain ⟨ad568, e568, hx568_0⟩ := Kd.at_int HR0.out x9_1 p568 q568
         obtain rfl : ad564 = ad568 := (by injection e568)
         replace hx568_0 := (HB.out.cell (World.block_lt_of_cell? w _ hx568_0)).trans hx568_0
         replace p568 := eq_true p568
         replace q568 := eq_true q568
         obtain ⟨Ao28, co28, eo28⟩ := Kd.R_slice HO_8.out
         subst eo28
         go_wp2_with (first | ((with_reducible refine gate_callee (f := 115) rfl ?_); refine goesL_ (some 51) rfl rfl Try.func115 Z0 rfl #[.slice Ao28 x8_1.length co28] rfl Z10 ?_; (with_reducible refine (spec_Unpack.calls k1 _ _ x8_1 t576 false _ ?side1 ?side2 A23.out).mono ?_); (case side1 => exact (Z17 HO_8)); (case side2 => exact (Kd.R_reads' HO_8.out).2.1); rintro e w29 ⟨rfl, hb⟩; refine ⟨_, rfl, ?_⟩; replace HO_8 := Z (Kd.R_below (Z12 HO_8) hb); replace BK563 := Z (blk_below (g := gb563) (o := .cells #[.int .i64 0, .string (⟨#[]⟩ : ByteArray), .int .i32 0, .bool false, .int .u32 0] 51 (0, 0)) (Z8 BK563) hb); replace HB := Z (below_step Z63 hb); (try clear hb); (try clear hb2); (try clear hk); (try clear hi); have hcz30_0 : w29.cell? ⟨gb563, 0, none⟩ = some (.int .i64 0) := (blk_cell BK563.out 0).trans rfl; have hcz30_1 : w29.cell? ⟨gb563, 1, none⟩ = some (.string (⟨#[]⟩ : ByteArray)) := (blk_cell BK563.out 1).trans rfl; have hcz30_2 : w29.cell? ⟨gb563, 2, none⟩ = some (.int .i32 0) := (blk_cell BK563.out 2).trans rfl; have hcz30_3 : w29.cell? ⟨gb563, 3, none⟩ = some (.bool false) := (blk_cell BK563.out 3).trans rfl; have hcz30_4 : w29.cell? ⟨gb563, 4, none⟩ = some (.int .u32 0) := (blk_cell BK563.out 4).trans rfl; have hfz30_0 := blk_frozen BK563.out 0; have hfz30_1 := blk_frozen BK563.out 1; have hfz30_2 := blk_frozen BK563.out 2; have hfz30_3 := blk_frozen BK563.out 3; have hfz30_4 := blk_frozen BK563.out 4))
         refine bodyPost_ret (results_ct rfl _ _ gb563 51 #[.int .i64 0, .string (⟨#[]⟩ : ByteArray), .int .i32 0, .bool false, .int .u32 0] (0, 0) _ rfl (Z32 BK563) Try.underlying51 rfl Z0) rfl ?_
         exact ⟨Z9, Z63⟩
      ·rw [if_neg c10] at H
       exact absurd H (by simp)
     ·rw [if_neg c9] at H
      have c9b0 : decide (x9_1 < (l0.length : Int)) = false := decide_eq_false c9
      clear c9
      replace H := Option.bind_eq_some_iff.mp H
      obtain ⟨⟨t578, t579⟩, A310, H⟩ := H
      replace H : (if t579 = true then (some (a2, t578, 0, false, 0, (x8_1.length : Int))) else (some (0, (⟨#[]⟩ : ByteArray), 0, false, 0, 0))) = some (r1, r2, r3, r4, r5, r6) := H
      have A31 := Aside0.mk A310
      clear A310
      by_cases c32 : t579 = true
      ·subst c32
       have H1 : (some (a2, t578, 0, false, 0, (x8_1.length : Int))) = some (r1, r2, r3, r4, r5, r6) := Z11
       clear H
       have H := H1
       clear H1
       simp only [Option.some.injEq, Prod.mk.injEq] at H
       obtain ⟨rfl, rfl, rfl, rfl, rfl, rfl⟩ := H
       obtain ⟨Ao33, co33, eo33⟩ := Kd.R_slice HO_8.out
       subst eo33
       go_wp2_with (first | ((with_reducible refine gate_callee (f := 115) rfl ?_); refine goesL_ (some 51) rfl rfl Try.func115 Z0 rfl #[.slice Ao33 x8_1.length co33] rfl Z10 ?_; (with_reducible refine (spec_Unpack.calls k1 _ _ x8_1 t578 true _ ?side1 ?side2 A31.out).mono ?_); (case side1 => exact (Z17 HO_8)); (case side2 => exact (Kd.R_reads' HO_8.out).2.1); rintro e w34 ⟨rfl, hb⟩; refine ⟨_, rfl, ?_⟩; replace HO_8 := Z (Kd.R_below (Z12 HO_8) hb); replace BK563 := Z (blk_below (g := gb563) (o := .cells #[.int .i64 0, .string (⟨#[]⟩ : ByteArray), .int .i32 0, .bool false, .int .u32 0] 51 (0, 0)) (Z8 BK563) hb); replace HB := Z (below_step Z63 hb); (try clear hb); (try clear hb2); (try clear hk); (try clear hi); have hcz35_0 : w34.cell? ⟨gb563, 0, none⟩ = some (.int .i64 0) := (blk_cell BK563.out 0).trans rfl; have hcz35_1 : w34.cell? ⟨gb563, 1, none⟩ = some (.string (⟨#[]⟩ : ByteArray)) := (blk_cell BK563.out 1).trans rfl; have hcz35_2 : w34.cell? ⟨gb563, 2, none⟩ = some (.int .i32 0) := (blk_cell BK563.out 2).trans rfl; have hcz35_3 : w34.cell? ⟨gb563, 3, none⟩ = some (.bool false) := (blk_cell BK563.out 3).trans rfl; have hcz35_4 : w34.cell? ⟨gb563, 4, none⟩ = some (.int .u32 0) := (blk_cell BK563.out 4).trans rfl; have hfz35_0 := blk_frozen BK563.out 0; have hfz35_1 := blk_frozen BK563.out 1; have hfz35_2 := blk_frozen BK563.out 2; have hfz35_3 := blk_frozen BK563.out 3; have hfz35_4 := blk_frozen BK563.out 4))
       refine bodyPost_ret (results_ct rfl _ _ gb563 51 #[.int .i64 a2, .string t578, .int .i32 0, .bool false, .int .u32 0] (0, 0) _ rfl (by (with_reducible repeat (first | refine blk_drewN ?_ _ | refine blk_drew ?_ | refine blk_alloc ?_ _)); refine blk_put (cs := #[.int .i64 a2, .string t578, .int .i32 0, .bool false, .int .u32 0]) ?_ 4 _ rfl; (with_reducible repeat (first | refine blk_drewN ?_ _ | refine blk_drew ?_ | refine blk_alloc ?_ _)); refine blk_put (cs := #[.int .i64 a2, .string t578, .int .i32 0, .bool false, .int .u32 0]) ?_ 3 _ rfl; (with_reducible repeat (first | refine blk_drewN ?_ _ | refine blk_drew ?_ | refine blk_alloc ?_ _)); refine blk_put (cs := #[.int .i64 a2, .string t578, .int .i32 0, .bool false, .int .u32 0]) ?_ 2 _ rfl; (with_reducible repeat (first | refine blk_drewN ?_ _ | refine blk_drew ?_ | refine blk_alloc ?_ _)); refine blk_put (cs := #[.int .i64 a2, .string (⟨#[]⟩ : ByteArray), .int .i32 0, .bool false, .int .u32 0]) ?_ 1 _ rfl; (with_reducible repeat (first | refine blk_drewN ?_ _ | refine blk_drew ?_ | refine blk_alloc ?_ _)); refine blk_put (cs := #[.int .i64 0, .string (⟨#[]⟩ : ByteArray), .int .i32 0, .bool false, .int .u32 0]) ?_ 0 _ rfl; (with_reducible repeat (first | refine blk_drewN ?_ _ | refine blk_drew ?_ | refine blk_alloc ?_ _)); exact BK563.out) Try.underlying51 rfl Z0) rfl ?_
       exact ⟨Z9, Z63⟩
      ·replace c32 := Bool.eq_false_iff.mpr c32
       subst c32
       have H1 : (some (0, (⟨#[]⟩ : ByteArray), 0, false, 0, 0)) = some (r1, r2, r3, r4, r5, r6) := by rw [if_neg (show ¬ (false = true) by decide)] at H; exact H
       clear H
       have H := H1
       clear H1
       simp only [Option.some.injEq, Prod.mk.injEq] at H
       obtain ⟨rfl, rfl, rfl, rfl, rfl, rfl⟩ := H
       obtain ⟨Ao36, co36, eo36⟩ := Kd.R_slice HO_8.out
       subst eo36
       go_wp2_with (first | ((with_reducible refine gate_callee (f := 115) rfl ?_); refine goesL_ (some 51) rfl rfl Try.func115 Z0 rfl #[.slice Ao36 x8_1.length co36] rfl Z10 ?_; (with_reducible refine (spec_Unpack.calls k1 _ _ x8_1 t578 false _ ?side1 ?side2 A31.out).mono ?_); (case side1 => exact (Z17 HO_8)); (case side2 => exact (Kd.R_reads' HO_8.out).2.1); rintro e w37 ⟨rfl, hb⟩; refine ⟨_, rfl, ?_⟩; replace HO_8 := Z (Kd.R_below (Z12 HO_8) hb); replace BK563 := Z (blk_below (g := gb563) (o := .cells #[.int .i64 0, .string (⟨#[]⟩ : ByteArray), .int .i32 0, .bool false, .int .u32 0] 51 (0, 0)) (Z8 BK563) hb); replace HB := Z (below_step Z63 hb); (try clear hb); (try clear hb2); (try clear hk); (try clear hi); have hcz38_0 : w37.cell? ⟨gb563, 0, none⟩ = some (.int .i64 0) := (blk_cell BK563.out 0).trans rfl; have hcz38_1 : w37.cell? ⟨gb563, 1, none⟩ = some (.string (⟨#[]⟩ : ByteArray)) := (blk_cell BK563.out 1).trans rfl; have hcz38_2 : w37.cell? ⟨gb563, 2, none⟩ = some (.int .i32 0) := (blk_cell BK563.out 2).trans rfl; have hcz38_3 : w37.cell? ⟨gb563, 3, none⟩ = some (.bool false) := (blk_cell BK563.out 3).trans rfl; have hcz38_4 : w37.cell? ⟨gb563, 4, none⟩ = some (.int .u32 0) := (blk_cell BK563.out 4).trans rfl; have hfz38_0 := blk_frozen BK563.out 0; have hfz38_1 := blk_frozen BK563.out 1; have hfz38_2 := blk_frozen BK563.out 2; have hfz38_3 := blk_frozen BK563.out 3; have hfz38_4 := blk_frozen BK563.out 4))
       refine bodyPost_ret (results_ct rfl _ _ gb563 51 #[.int .i64 0, .string (⟨#[]⟩ : ByteArray), .int .i32 0, .bool false, .int .u32 0] (0, 0) _ rfl (Z32 BK563) Try.underlying51 rfl Z0) rfl ?_
       exact ⟨Z9, Z63⟩
  ·rw [if_neg c5] at H
   exact absurd H (by simp)
 ·rw [if_neg c4] at H
  exact absurd H (by simp)

end Go.Proofs.Ytkkiibjnpkjijaa.QFnCells
