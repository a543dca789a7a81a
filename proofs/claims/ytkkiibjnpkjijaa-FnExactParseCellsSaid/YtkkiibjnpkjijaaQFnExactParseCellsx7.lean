/-
Plain functions for the Go functions that a law reaches, each with a proof that the translation's call comes to just that; no conditions beyond those written in each.
-/
import Derived.Test.YtkkiibjnpkjijaaSFnExactParseCells
import Derived.Test.YtkkiibjnpkjijaaQFnExactParseCellsx6
namespace Go.Proofs.Ytkkiibjnpkjijaa.QFnExactParseCells
open Go.RowKit Go.Proofs.YtkkiibjnpkjijaaW.PrintWords Go.Proofs.YtkkiibjnpkjijaaW.PrintLast Go.Proofs.YtkkiibjnpkjijaaW.PrintMore
attribute [local go_sem] max2_int min2_int max_two min_two max_three min_three max_four min_four   -- for this text's walks alone
set_option linter.unusedVariables false
set_option linter.unusedSimpArgs false

/-! ### spec_UnpackOne: function 97 -/
mutual
def spec_UnpackOne.l0 : Nat → Int → List Int → Int → Option (ByteArray)
 | 0, _, _, _ => none
 | k + 1, x0, x3, x4 => if x4 > 0 then (if 0 ≤ (IntKind.u64.wrap (x4)) then (spec_UnpackOne.j1 k x0 x3 x4 ((Go.bits .and .i64 (wrap64 (x0)) (wrap64 ((shl .i64 1 (IntKind.u64.wrap (x4))) - 1))) != 0)) else (none)) else (spec_UnpackOne.j1 k x0 x3 x4 false)
def spec_UnpackOne.j1 : Nat → Int → List Int → Int → Bool → Option (ByteArray)
 | 0, _, _, _, _ => none
 | k + 1, x0, x3, x4, x22 => if x22 = true then ((spec_Decode.f k x0 x4).bind fun bt267 => (if bt267.1 < 1 then (some (strOfNums x3)) else ((spec_LetterAt.f bt267.1).bind fun t269 => (if x3.length < 140737488355328 then (spec_UnpackOne.l0 k x0 (x3 ++ [t269]) (wrap64 (x4 - bt267.2))) else (none))))) else (some (strOfNums x3))
end
def spec_UnpackOne.f (k : Nat) (a0 : Int) : Option (ByteArray) := if (wrap64 (a0)) ≥ 268435456 then (some (⟨#[]⟩ : ByteArray)) else (spec_UnpackOne.l0 k a0 (([] : List Int)) 28)
theorem spec_UnpackOne.mono_l : ∀ k, (∀ y0 y1 y2, LeO (spec_UnpackOne.l0 k y0 y1 y2) (spec_UnpackOne.l0 (k + 1) y0 y1 y2)) ∧ (∀ y0 y1 y2 y3, LeO (spec_UnpackOne.j1 k y0 y1 y2 y3) (spec_UnpackOne.j1 (k + 1) y0 y1 y2 y3))
 | 0 => ⟨fun _ _ _ r h => by simp [spec_UnpackOne.l0] at h, fun _ _ _ _ r h => by simp [spec_UnpackOne.j1] at h⟩
 | k + 1 => by
  obtain ⟨ih0, ih1⟩ := spec_UnpackOne.mono_l k
  refine ⟨?_, ?_⟩
  ·intro y0 y1 y2
   unfold spec_UnpackOne.l0
   repeat' first
   | (with_reducible exact ih0 _ _ _)
   | (with_reducible exact ih1 _ _ _ _)
   | (with_reducible exact spec_Decode.mono _ _ _)
   | (with_reducible exact LeO.refl _)
   | (with_reducible exact LeO.none _)
   | (with_reducible refine LeO.ite ?_ ?_)
   | (with_reducible refine LeO.bind ?_ (fun _ => ?_))
   | exact ih0 _ _ _
   | exact ih1 _ _ _ _
   | exact spec_Decode.mono _ _ _
   | exact LeO.none _
   | refine LeO.ite ?_ ?_
   | refine LeO.bind ?_ (fun _ => ?_)
  ·intro y0 y1 y2 y3
   unfold spec_UnpackOne.j1
   repeat' first
   | (with_reducible exact ih0 _ _ _)
   | (with_reducible exact ih1 _ _ _ _)
   | (with_reducible exact spec_Decode.mono _ _ _)
   | (with_reducible exact LeO.refl _)
   | (with_reducible exact LeO.none _)
   | (with_reducible refine LeO.ite ?_ ?_)
   | (with_reducible refine LeO.bind ?_ (fun _ => ?_))
   | exact ih0 _ _ _
   | exact ih1 _ _ _ _
   | exact spec_Decode.mono _ _ _
   | exact LeO.none _
   | refine LeO.ite ?_ ?_
   | refine LeO.bind ?_ (fun _ => ?_)
theorem spec_UnpackOne.mono : ∀ a0 k, LeO (spec_UnpackOne.f k a0) (spec_UnpackOne.f (k + 1) a0) := by
 intro a0 k
 obtain ⟨ih0, ih1⟩ := spec_UnpackOne.mono_l k
 unfold spec_UnpackOne.f
 repeat' first
   | (with_reducible exact ih0 _ _ _)
   | (with_reducible exact ih1 _ _ _ _)
   | (with_reducible exact spec_Decode.mono _ _ _)
   | (with_reducible exact LeO.refl _)
   | (with_reducible exact LeO.none _)
   | (with_reducible refine LeO.ite ?_ ?_)
   | (with_reducible refine LeO.bind ?_ (fun _ => ?_))
   | exact ih0 _ _ _
   | exact ih1 _ _ _ _
   | exact spec_Decode.mono _ _ _
   | exact LeO.none _
   | refine LeO.ite ?_ ?_
   | refine LeO.bind ?_ (fun _ => ?_)
set_option maxHeartbeats 8000000 in
set_option maxRecDepth 100000 in
theorem spec_UnpackOne.calls (k : Nat) (a0 : Int) (r : ByteArray) (w : World) (h : spec_UnpackOne.f k a0 = some r) :
  Calls Try.prog 97 #[.int .u32 a0] w fun e w' => e = .returned (.string r) ∧ Below w.heap.size w w' := by
 have HB := Z (Below.refl w.heap.size w)
 have H : (if (wrap64 (a0)) ≥ 268435456 then (some (⟨#[]⟩ : ByteArray)) else (spec_UnpackOne.l0 k a0 (([] : List Int)) 28)) = some r := h
 clear h
 by_cases c2 : (wrap64 (a0)) ≥ 268435456
 ·rw [if_pos c2] at H
  have c2b0 : decide (268435456 ≤ (wrap64 (a0))) = true := decide_eq_true c2
  clear c2
  obtain rfl := Option.some.inj H
  go_enter Try.func97, Try.ntmps97
  go_wp2
  go_ret
  exact ⟨Z13, Z62⟩
 ·rw [if_neg c2] at H
  have c2b0 : decide (268435456 ≤ (wrap64 (a0))) = false := decide_eq_false c2
  clear c2
  obtain ⟨y264, hy264⟩ : ∃ y_ : List Int, y_ = (([] : List Int)) := ⟨_, rfl⟩
  replace H : (spec_UnpackOne.l0 k a0 y264 28) = some r := by first | (rw [hy264]; with_reducible exact H) | (have H2_ := (Option.bind_some _ _).symm.trans H; rw [hy264]; with_reducible exact H2_) | (have H2_ := (Option.bind_some _ _).symm.trans H; with_reducible exact H2_) | with_reducible exact H | (rw [hy264]; exact H) | exact H
  have Ny264 := Aside0.mk hy264
  clear hy264
  have H' := Aside0.mk H
  clear H
  go_enter Try.func97, Try.ntmps97
  go_wp2_with (first | ((with_reducible refine gate_dst (N := 10) rfl ?_); refine Kd.R_lit (Kd.int .u8) _ 5 (by rfl) (N := 10) (by rfl) (xs := ([] : List Int)) (inner := []) (ok := fun _ => True) (okp := fun _ => True) Z10 (Reps.none _ _) (fun _ hk => hk) trivial (Below.refl _ _) (Nat.le_refl _) (by simp) ?_; intro v265 w3 ho4 hb hg_ hnew_; clear hg_ hnew_; (first | rw [← Ny264.out] at ho4 | (simp only [Int.reduceToNat] at ho4; rw [← Ny264.out] at ho4)); have HO266 := Z (Kd.R_lower ho4 (below_size Z62)); replace HB := Z (below_step Z62 hb); clear hb ho4))
  go_loopg [3, 4] k (fun kq v3 v4 w' => ∃ (x3_1 : List Int) (x4_1 : Int), v4 = .int .i64 x4_1 ∧ Aside0 (spec_UnpackOne.l0 kq a0 x3_1 x4_1 = some r) ∧ Aside0 (kq ≤ k) ∧ Aside0 (Kd.R (Kd.int .u8) 5 w' w.heap.size (fun _ => True) v3 x3_1) ∧ Aside0 (Below w.heap.size w w'))
  case atStart => exact ⟨(y264), (28), Z2, H', ⟨Nat.le_refl _⟩, ⟨(Z12 HO266)⟩, ⟨Z62⟩⟩
  case round =>
   clear H'
   try clear c2
   try clear c2b0
   try clear p2
   obtain ⟨x3_1, x4_1, rfl, HA, HK1, HO_3, HB⟩ := hrel
   cases gk with
   | zero => exact absurd HA.out (by simp [spec_UnpackOne.l0])
   | succ k1 =>
    have H := HA.out
    clear HA
    simp only [spec_UnpackOne.l0] at H
    have HC5 := Aside0.mk H
    clear H
    go_upto_region 5 with (fail)
    go_cut [22] (fun v22 wc => ∃ (kq : Nat) (x22_4 : Bool), v22 = .bool x22_4 ∧ Aside0 (spec_UnpackOne.j1 kq a0 x3_1 x4_1 x22_4 = some r) ∧ Aside0 (kq ≤ k1) ∧ Aside0 (Kd.R (Kd.int .u8) 5 wc w.heap.size (fun _ => True) u3 x3_1) ∧ Aside0 (Below w.heap.size w wc))
    case first =>
     have H := HC5.out
     clear HC5
     by_cases c6 : x4_1 > 0
     ·rw [if_pos c6] at H
      have c6b0 : decide (0 < x4_1) = true := decide_eq_true c6
      clear c6
      (first | rw [c6b0] | (simp only [i64_w, i32_w]; rw [c6b0]) | skip)
      obtain ⟨ji7, hji7⟩ : ∃ j_ : Int, (IntKind.u64.wrap (x4_1)) = j_ := ⟨_, rfl⟩
      replace H : (if 0 ≤ (ji7) then (spec_UnpackOne.j1 k1 a0 x3_1 x4_1 ((Go.bits .and .i64 (wrap64 (a0)) (wrap64 ((shl .i64 1 (ji7)) - 1))) != 0)) else (none)) = some r := by first | (rw [hji7] at H; exact H) | (simp only [hji7] at H ⊢; exact H)
      by_cases c8 : 0 ≤ (ji7)
      ·rw [if_pos c8] at H
       have c8b0 := eq_true c8
       have c8b1 : decide (0 ≤ (ji7)) = true := decide_eq_true c8
       clear c8
       obtain ⟨ji9, hji9⟩ : ∃ j_ : Int, (shl .i64 1 (ji7)) = j_ := ⟨_, rfl⟩
       replace H : (spec_UnpackOne.j1 k1 a0 x3_1 x4_1 ((Go.bits .and .i64 (wrap64 (a0)) (wrap64 ((ji9) - 1))) != 0)) = some r := Z39
       have hji9_ : (IntKind.i64.wrap (1 * 2 ^ min (ji7).toNat 64)) = ji9 := hji9
       have hji9z : (ji7) ≤ 64 → (IntKind.i64.wrap (1 * 2 ^ (ji7).toNat)) = ji9 := shl_small hji9
       have hji9u : (IntKind.i64.wrap (2 ^ min (ji7).toNat 64)) = ji9 := by have h_ := hji9_; rw [Int.one_mul] at h_; exact h_
       have hji9v : (ji7) ≤ 64 → (IntKind.i64.wrap (2 ^ (ji7).toNat)) = ji9 := fun hle_ => by have h_ := hji9z hle_; rw [Int.one_mul] at h_; exact h_
       have hji9y : (wrap64 (1 * 2 ^ min (ji7).toNat 64)) = ji9 := (i64_w _).symm.trans hji9_
       have hji9x : (ji7) ≤ 64 → (wrap64 (1 * 2 ^ (ji7).toNat)) = ji9 := fun h_ => (i64_w _).symm.trans (hji9z h_)
       have H' := Aside0.mk H
       clear H
       go_wp2
       go_meet
       case rel => exact ⟨_, (((Go.bits .and .i64 (wrap64 (a0)) (wrap64 ((ji9) - 1))) != 0)), (by first | rfl | (simp; done) | (simp only [← hji9] <;> (first | rfl | simp)) | (simp [*]; done)), H', ⟨by have := HK1.out; first | omega | exact Nat.le_refl _⟩, ⟨(Z12 HO_3)⟩, ⟨Z62⟩⟩
      ·rw [if_neg c8] at H
       exact absurd H (by simp)
     ·rw [if_neg c6] at H
      have c6b0 : decide (0 < x4_1) = false := decide_eq_false c6
      clear c6
      (first | rw [c6b0] | (simp only [i64_w, i32_w]; rw [c6b0]) | skip)
      have H' := Aside0.mk H
      clear H
      go_wp2
      go_meet
      case rel => exact ⟨_, (false), Z2, H', ⟨by have := HK1.out; first | omega | exact Nat.le_refl _⟩, ⟨(Z12 HO_3)⟩, ⟨Z62⟩⟩
    case rest =>
     clear HC5
     try clear c2
     try clear c2b0
     try clear p2
     try clear c6
     try clear c6b0
     try clear p6
     try clear c8
     try clear c8b0
     try clear c8b1
     try clear c9
     try clear p2
     obtain ⟨kq, x22_4, rfl, HA, HJ4, HO_3, HB⟩ := hcut
     cases kq with
     | zero => exact absurd HA.out (by simp [spec_UnpackOne.j1])
     | succ kj4 =>
      have H := HA.out
      clear HA
      simp only [spec_UnpackOne.j1] at H
      by_cases c10 : x22_4 = true
      ·subst c10
       have H1 : ((spec_Decode.f kj4 a0 x4_1).bind fun bt267 => (if bt267.1 < 1 then (some (strOfNums x3_1)) else ((spec_LetterAt.f bt267.1).bind fun t269 => (if x3_1.length < 140737488355328 then (spec_UnpackOne.l0 kj4 a0 (x3_1 ++ [t269]) (wrap64 (x4_1 - bt267.2))) else (none))))) = some r := Z7
       clear H
       have H := H1
       clear H1
       replace H := Option.bind_eq_some_iff.mp H
       obtain ⟨⟨t267, t268⟩, A110, H⟩ := H
       replace H : (if t267 < 1 then (some (strOfNums x3_1)) else ((spec_LetterAt.f t267).bind fun t269 => (if x3_1.length < 140737488355328 then (spec_UnpackOne.l0 kj4 a0 (x3_1 ++ [t269]) (wrap64 (x4_1 - t268))) else (none)))) = some r := H
       have A11 := Aside0.mk A110
       clear A110
       by_cases c12 : t267 < 1
       ·rw [if_pos c12] at H
        have c12b0 : decide (t267 < 1) = true := decide_eq_true c12
        clear c12
        obtain rfl := Option.some.inj H
        go_wp2_with (first | ((with_reducible refine gate_callee (f := 117) rfl ?_); refine goesL_ (some 26) rfl rfl Try.func117 Z0 rfl #[.int .u32 a0, .int .i64 x4_1] rfl Z4 ?_; (with_reducible refine (spec_Decode.calls kj4 a0 x4_1 t267 t268 _ A11.out).mono ?_); rintro e w' ⟨rfl, ⟨nd, rfl⟩⟩; refine ⟨_, rfl, ?_⟩; have hcv13 := own_string (P := Try.prog) Try.underlying22 Try.underlying5 Try.underlying9 (Kd.own_of_R HO_3.out); have hcw13 := fun nq_ : Nat => own_string (P := Try.prog) Try.underlying22 Try.underlying5 Try.underlying9 (Kd.own_of_R (Kd.R_drewN HO_3.out nq_))))
        go_ret
        exact ⟨Z13, Z62⟩
       ·rw [if_neg c12] at H
        have c12b0 : decide (t267 < 1) = false := decide_eq_false c12
        clear c12
        replace H := Option.bind_eq_some_iff.mp H
        obtain ⟨t269, A140, H⟩ := H
        replace H : (if x3_1.length < 140737488355328 then (spec_UnpackOne.l0 kj4 a0 (x3_1 ++ [t269]) (wrap64 (x4_1 - t268))) else (none)) = some r := H
        have A14 := Aside0.mk A140
        clear A140
        by_cases c15 : x3_1.length < 140737488355328
        ·rw [if_pos c15] at H
         have LMc15 := Aside0.mk c15
         clear c15
         obtain ⟨y270, hy270⟩ : ∃ y_ : List Int, y_ = (x3_1 ++ [t269]) := ⟨_, rfl⟩
         replace H : (spec_UnpackOne.l0 kj4 a0 y270 (wrap64 (x4_1 - t268))) = some r := by first | (rw [hy270]; with_reducible exact H) | (have H2_ := (Option.bind_some _ _).symm.trans H; rw [hy270]; with_reducible exact H2_) | (have H2_ := (Option.bind_some _ _).symm.trans H; with_reducible exact H2_) | with_reducible exact H | (rw [hy270]; exact H) | exact H
         have Ny270 := Aside0.mk hy270
         clear hy270
         have H' := Aside0.mk H
         clear H
         go_wp2_with (first | ((with_reducible refine gate_callee (f := 117) rfl ?_); refine goesL_ (some 26) rfl rfl Try.func117 Z0 rfl #[.int .u32 a0, .int .i64 x4_1] rfl Z4 ?_; (with_reducible refine (spec_Decode.calls kj4 a0 x4_1 t267 t268 _ A11.out).mono ?_); rintro e w' ⟨rfl, ⟨nd, rfl⟩⟩; refine ⟨_, rfl, ?_⟩) | ((with_reducible refine gate_callee (f := 118) rfl ?_); refine goesL_ (some 33) rfl rfl Try.func118 Z0 rfl #[.int .i64 t267] rfl Z4 ?_; (with_reducible refine (spec_LetterAt.calls t267 t269 _ A14.out).mono ?_); rintro e w' ⟨rfl, ⟨nd, rfl⟩⟩; refine ⟨_, rfl, ?_⟩) | ((with_reducible refine gate_builtin (b := .append) (xs := #[.tmp 31, .tmp 34]) rfl ?_); at_builtin; refine Kd.R_append (Kd.int .u8) (w0 := w) w.heap.size rfl (.tmp 31) (.tmp 34) 22 5 (.int .u8 0) 1 rfl Try.underlying22 info5 rfl (by decide) (by omega) u3 x3_1 t269 [.int .u8 t269] (fun _ => True) (fun _ => False) rfl rfl ?aP (fun _ hk => hk.elim) ?aF ?aO ?aB ?aS ?aL ?_; (case aP => exact rfl); (case aB => exact Z62); (case aF => exact (fun _ _ => trivial)); (case aO => exact (Z12 HO_3)); (case aS => exact (below_size Z62)); (case aL => have := LMc15.out; omega); intro v271 w16 ho hb hg hat; rw [← Ny270.out] at ho; replace HB := Z (hb); have HO272 := Z (ho); clear HO_3; clear ho hb hg hat))
         go_roundg kj4
         case measure => have := HK1.out; have := HJ4.out; omega
         case rel => exact ⟨(y270), (wrap64 (x4_1 - t268)), Z2, H', ⟨by have := HK1.out; have := HJ4.out; omega⟩, ⟨(Z12 HO272)⟩, ⟨Z62⟩⟩
        ·rw [if_neg c15] at H
         exact absurd H (by simp)
      ·replace c10 := Bool.eq_false_iff.mpr c10
       subst c10
       have H1 : (some (strOfNums x3_1)) = some r := by rw [if_neg (show ¬ (false = true) by decide)] at H; exact H
       clear H
       have H := H1
       clear H1
       obtain rfl := Option.some.inj H
       have hcv17 := own_string (P := Try.prog) Try.underlying22 Try.underlying5 Try.underlying9 (Kd.own_of_R HO_3.out)
       have hcw17 := fun nq_ : Nat => own_string (P := Try.prog) Try.underlying22 Try.underlying5 Try.underlying9 (Kd.own_of_R (Kd.R_drewN HO_3.out nq_))
       go_wp2
       go_ret
       exact ⟨Z13, Z62⟩

/-! ### spec_LetterOf: function 132 -/
def spec_LetterOf.l0 : Nat → Int → ByteArray → Int → Option (Int)
 | 0, _, _, _ => none
 | k + 1, x0, x3, x4 => if x4 < (x3.size : Int) then (if 0 ≤ x4 then (if (bt x3 x4) = x0 then (some x4) else (spec_LetterOf.l0 k x0 x3 (wrap64 (x4 + 1)))) else (none)) else (some (-1))
def spec_LetterOf.f (k : Nat) (a0 : Int) : Option (Int) := (spec_l02All.f).bind fun t273 => (spec_LetterOf.l0 k a0 t273 0)
theorem spec_LetterOf.mono_l : ∀ k, (∀ y0 y1 y2, LeO (spec_LetterOf.l0 k y0 y1 y2) (spec_LetterOf.l0 (k + 1) y0 y1 y2))
 | 0 => fun _ _ _ r h => by simp [spec_LetterOf.l0] at h
 | k + 1 => by
  have ih0 := spec_LetterOf.mono_l k
  ·intro y0 y1 y2
   unfold spec_LetterOf.l0
   repeat' first
   | (with_reducible exact ih0 _ _ _)
   | (with_reducible exact LeO.refl _)
   | (with_reducible exact LeO.none _)
   | (with_reducible refine LeO.ite ?_ ?_)
   | (with_reducible refine LeO.bind ?_ (fun _ => ?_))
   | exact ih0 _ _ _
   | exact LeO.none _
   | refine LeO.ite ?_ ?_
   | refine LeO.bind ?_ (fun _ => ?_)
theorem spec_LetterOf.mono : ∀ a0 k, LeO (spec_LetterOf.f k a0) (spec_LetterOf.f (k + 1) a0) := by
 intro a0 k
 have ih0 := spec_LetterOf.mono_l k
 unfold spec_LetterOf.f
 repeat' first
   | (with_reducible exact ih0 _ _ _)
   | (with_reducible exact LeO.refl _)
   | (with_reducible exact LeO.none _)
   | (with_reducible refine LeO.ite ?_ ?_)
   | (with_reducible refine LeO.bind ?_ (fun _ => ?_))
   | exact ih0 _ _ _
   | exact LeO.none _
   | refine LeO.ite ?_ ?_
   | refine LeO.bind ?_ (fun _ => ?_)
set_option maxHeartbeats 8000000 in
set_option maxRecDepth 100000 in
theorem spec_LetterOf.calls (k : Nat) (a0 : Int) (r : Int) (w : World) (h : spec_LetterOf.f k a0 = some r) :
  Calls Try.prog 132 #[.int .u8 a0] w fun e w' => e = .returned (.int .i64 r) ∧ Drawn0 w w' := by
 have H : ((spec_l02All.f).bind fun t273 => (spec_LetterOf.l0 k a0 t273 0)) = some r := h
 clear h
 replace H := Option.bind_eq_some_iff.mp H
 obtain ⟨t273, A20, H⟩ := H
 replace H : (spec_LetterOf.l0 k a0 t273 0) = some r := H
 have A2 := Aside0.mk A20
 clear A20
 have H' := Aside0.mk H
 clear H
 go_enter Try.func132, Try.ntmps132
 go_wp2_with (first | ((with_reducible refine gate_callee (f := 130) rfl ?_); refine goesL_ (some 5) rfl rfl Try.func130 Z0 rfl #[] rfl Z4 ?_; (with_reducible refine (spec_l02All.calls  t273 _ A2.out).mono ?_); rintro e w' ⟨rfl, ⟨nd, rfl⟩⟩; refine ⟨_, rfl, ?_⟩))
 go_loopg [4] k (fun kq v4 w' => ∃ (x4_1 : Int), v4 = .int .i64 x4_1 ∧ Aside0 (spec_LetterOf.l0 kq a0 t273 x4_1 = some r) ∧ Aside0 (kq ≤ k) ∧ Drawn0 w w')
 case atStart => exact ⟨(0), Z2, H', ⟨Nat.le_refl _⟩, Z3⟩
 case round =>
  clear H'
  try clear c1
  try clear p2
  obtain ⟨x4_1, rfl, HA, HK1, ⟨m1, rfl⟩⟩ := hrel
  cases gk with
  | zero => exact absurd HA.out (by simp [spec_LetterOf.l0])
  | succ k1 =>
   have H := HA.out
   clear HA
   simp only [spec_LetterOf.l0] at H
   by_cases c3 : x4_1 < (t273.size : Int)
   ·rw [if_pos c3] at H
    have c3b0 : decide (x4_1 < (t273.size : Int)) = true := decide_eq_true c3
    clear c3
    by_cases c4 : 0 ≤ x4_1
    ·rw [if_pos c4] at H
     have c4b0 : decide (0 ≤ x4_1) = true := decide_eq_true c4
     clear c4
     by_cases c6 : (bt t273 x4_1) = a0
     ·rw [if_pos c6] at H
      have c6b0 : ((bt t273 x4_1) == a0) = true := beq_iff_eq.mpr c6
      have c6b1 : ((bt t273 x4_1) != a0) = false := bne_eq_false_iff_eq.mpr c6
      clear c6
      obtain rfl := Option.some.inj H
      have p5 : 0 ≤ (x4_1 : Int) := of_decide_eq_true Z5
      have q5 : x4_1 < (t273.size : Int) := of_decide_eq_true Z5
      have hx5 := bt_at t273 x4_1
      replace p5 := eq_true p5
      replace q5 := eq_true q5
      go_wp2
      go_ret
      exact ⟨Z2, Z3⟩
     ·rw [if_neg c6] at H
      have c6b0 : ((bt t273 x4_1) == a0) = false := beq_eq_false_iff_ne.mpr c6
      have c6b1 : ((bt t273 x4_1) != a0) = true := bne_iff_ne.mpr c6
      have H' := Aside0.mk H
      clear H
      have p5 : 0 ≤ (x4_1 : Int) := of_decide_eq_true Z5
      have q5 : x4_1 < (t273.size : Int) := of_decide_eq_true Z5
      have hx5 := bt_at t273 x4_1
      replace p5 := eq_true p5
      replace q5 := eq_true q5
      go_wp2
      go_roundg k1
      case measure => have := HK1.out; omega
      case rel => exact ⟨(wrap64 (x4_1 + 1)), Z2, H', ⟨Z6⟩, Z3⟩
    ·rw [if_neg c4] at H
     exact absurd H (by simp)
   ·rw [if_neg c3] at H
    have c3b0 : decide (x4_1 < (t273.size : Int)) = false := decide_eq_false c3
    clear c3
    obtain rfl := Option.some.inj H
    go_wp2
    go_ret
    exact ⟨Z2, Z3⟩

/-! ### spec_NameOk: function 125 -/
def spec_NameOk.l0 : Nat → ByteArray → Int → Option (Bool)
 | 0, _, _ => none
 | k + 1, x0, x3 => if x3 < (x0.size : Int) then (if 0 ≤ x3 then ((spec_LetterOf.f k (bt x0 x3)).bind fun t275 => (if t275 < 1 then (some false) else (spec_NameOk.l0 k x0 (wrap64 (x3 + 1))))) else (none)) else (some true)
def spec_NameOk.f (k : Nat) (a0 : ByteArray) : Option (Bool) := (spec_l01In.f (a0.size : Int) 1 24).bind fun t274 => (if t274 = true then (spec_NameOk.l0 k a0 0) else (some false))
theorem spec_NameOk.mono_l : ∀ k, (∀ y0 y1, LeO (spec_NameOk.l0 k y0 y1) (spec_NameOk.l0 (k + 1) y0 y1))
 | 0 => fun _ _ r h => by simp [spec_NameOk.l0] at h
 | k + 1 => by
  have ih0 := spec_NameOk.mono_l k
  ·intro y0 y1
   unfold spec_NameOk.l0
   repeat' first
   | (with_reducible exact ih0 _ _)
   | (with_reducible exact spec_LetterOf.mono _ _)
   | (with_reducible exact LeO.refl _)
   | (with_reducible exact LeO.none _)
   | (with_reducible refine LeO.ite ?_ ?_)
   | (with_reducible refine LeO.bind ?_ (fun _ => ?_))
   | exact ih0 _ _
   | exact spec_LetterOf.mono _ _
   | exact LeO.none _
   | refine LeO.ite ?_ ?_
   | refine LeO.bind ?_ (fun _ => ?_)
theorem spec_NameOk.mono : ∀ a0 k, LeO (spec_NameOk.f k a0) (spec_NameOk.f (k + 1) a0) := by
 intro a0 k
 have ih0 := spec_NameOk.mono_l k
 unfold spec_NameOk.f
 repeat' first
   | (with_reducible exact ih0 _ _)
   | (with_reducible exact spec_LetterOf.mono _ _)
   | (with_reducible exact LeO.refl _)
   | (with_reducible exact LeO.none _)
   | (with_reducible refine LeO.ite ?_ ?_)
   | (with_reducible refine LeO.bind ?_ (fun _ => ?_))
   | exact ih0 _ _
   | exact spec_LetterOf.mono _ _
   | exact LeO.none _
   | refine LeO.ite ?_ ?_
   | refine LeO.bind ?_ (fun _ => ?_)
set_option maxHeartbeats 8000000 in
set_option maxRecDepth 100000 in
theorem spec_NameOk.calls (k : Nat) (a0 : ByteArray) (r : Bool) (w : World) (h : spec_NameOk.f k a0 = some r) :
  Calls Try.prog 125 #[.string a0] w fun e w' => e = .returned (.bool r) ∧ Drawn0 w w' := by
 have H : ((spec_l01In.f (a0.size : Int) 1 24).bind fun t274 => (if t274 = true then (spec_NameOk.l0 k a0 0) else (some false))) = some r := h
 clear h
 replace H := Option.bind_eq_some_iff.mp H
 obtain ⟨t274, A20, H⟩ := H
 replace H : (if t274 = true then (spec_NameOk.l0 k a0 0) else (some false)) = some r := H
 have A2 := Aside0.mk A20
 clear A20
 by_cases c3 : t274 = true
 ·subst c3
  have H1 : (spec_NameOk.l0 k a0 0) = some r := Z7
  clear H
  have H := H1
  clear H1
  have H' := Aside0.mk H
  clear H
  go_enter Try.func125, Try.ntmps125
  go_wp2_with (first | ((with_reducible refine gate_callee (f := 68) rfl ?_); refine goesL_ (some 6) rfl rfl Try.func68 Z0 rfl #[.int .i64 (a0.size : Int), .int .i64 1, .int .i64 24] rfl Z4 ?_; (with_reducible refine (spec_l01In.calls (a0.size : Int) 1 24 true _ A2.out).mono ?_); rintro e w' ⟨rfl, ⟨nd, rfl⟩⟩; refine ⟨_, rfl, ?_⟩))
  go_loopg [3] k (fun kq v3 w' => ∃ (x3_1 : Int), v3 = .int .i64 x3_1 ∧ Aside0 (spec_NameOk.l0 kq a0 x3_1 = some r) ∧ Aside0 (kq ≤ k) ∧ Drawn0 w w')
  case atStart => exact ⟨(0), Z2, H', ⟨Nat.le_refl _⟩, Z3⟩
  case round =>
   clear H'
   try clear c1
   try clear p2
   try clear c3
   obtain ⟨x3_1, rfl, HA, HK1, ⟨m1, rfl⟩⟩ := hrel
   cases gk with
   | zero => exact absurd HA.out (by simp [spec_NameOk.l0])
   | succ k1 =>
    have H := HA.out
    clear HA
    simp only [spec_NameOk.l0] at H
    by_cases c4 : x3_1 < (a0.size : Int)
    ·rw [if_pos c4] at H
     have c4b0 : decide (x3_1 < (a0.size : Int)) = true := decide_eq_true c4
     clear c4
     by_cases c5 : 0 ≤ x3_1
     ·rw [if_pos c5] at H
      have c5b0 : decide (0 ≤ x3_1) = true := decide_eq_true c5
      clear c5
      replace H := Option.bind_eq_some_iff.mp H
      obtain ⟨t275, A70, H⟩ := H
      replace H : (if t275 < 1 then (some false) else (spec_NameOk.l0 k1 a0 (wrap64 (x3_1 + 1)))) = some r := H
      have A7 := Aside0.mk A70
      clear A70
      by_cases c8 : t275 < 1
      ·rw [if_pos c8] at H
       have c8b0 : decide (t275 < 1) = true := decide_eq_true c8
       clear c8
       obtain rfl := Option.some.inj H
       have p6 : 0 ≤ (x3_1 : Int) := of_decide_eq_true Z5
       have q6 : x3_1 < (a0.size : Int) := of_decide_eq_true Z5
       have hx6 := bt_at a0 x3_1
       replace p6 := eq_true p6
       replace q6 := eq_true q6
       go_wp2_with (first | ((with_reducible refine gate_callee (f := 132) rfl ?_); refine goesL_ (some 17) rfl rfl Try.func132 Z0 rfl #[.int .u8 (bt a0 x3_1)] rfl Z4 ?_; (with_reducible refine (spec_LetterOf.calls k1 (bt a0 x3_1) t275 _ A7.out).mono ?_); rintro e w' ⟨rfl, ⟨nd, rfl⟩⟩; refine ⟨_, rfl, ?_⟩))
       go_ret
       exact ⟨Z2, Z3⟩
      ·rw [if_neg c8] at H
       have c8b0 : decide (t275 < 1) = false := decide_eq_false c8
       clear c8
       have H' := Aside0.mk H
       clear H
       have p6 : 0 ≤ (x3_1 : Int) := of_decide_eq_true Z5
       have q6 : x3_1 < (a0.size : Int) := of_decide_eq_true Z5
       have hx6 := bt_at a0 x3_1
       replace p6 := eq_true p6
       replace q6 := eq_true q6
       go_wp2_with (first | ((with_reducible refine gate_callee (f := 132) rfl ?_); refine goesL_ (some 17) rfl rfl Try.func132 Z0 rfl #[.int .u8 (bt a0 x3_1)] rfl Z4 ?_; (with_reducible refine (spec_LetterOf.calls k1 (bt a0 x3_1) t275 _ A7.out).mono ?_); rintro e w' ⟨rfl, ⟨nd, rfl⟩⟩; refine ⟨_, rfl, ?_⟩))
       go_roundg k1
       case measure => have := HK1.out; omega
       case rel => exact ⟨(wrap64 (x3_1 + 1)), Z2, H', ⟨Z6⟩, Z3⟩
     ·rw [if_neg c5] at H
      exact absurd H (by simp)
    ·rw [if_neg c4] at H
     have c4b0 : decide (x3_1 < (a0.size : Int)) = false := decide_eq_false c4
     clear c4
     obtain rfl := Option.some.inj H
     go_wp2
     go_ret
     exact ⟨Z2, Z3⟩
 ·replace c3 := Bool.eq_false_iff.mpr c3
  subst c3
  have H1 : (some false) = some r := by rw [if_neg (show ¬ (false = true) by decide)] at H; exact H
  clear H
  have H := H1
  clear H1
  obtain rfl := Option.some.inj H
  go_enter Try.func125, Try.ntmps125
  go_wp2_with (first | ((with_reducible refine gate_callee (f := 68) rfl ?_); refine goesL_ (some 6) rfl rfl Try.func68 Z0 rfl #[.int .i64 (a0.size : Int), .int .i64 1, .int .i64 24] rfl Z4 ?_; (with_reducible refine (spec_l01In.calls (a0.size : Int) 1 24 false _ A2.out).mono ?_); rintro e w' ⟨rfl, ⟨nd, rfl⟩⟩; refine ⟨_, rfl, ?_⟩))
  go_ret
  exact ⟨Z2, Z3⟩

/-! ### spec_l03One: function 127 -/
def spec_l03One.l0 : Nat → ByteArray → Int → Int → Int → Option (Int × Int)
 | 0, _, _, _, _ => none
 | k + 1, x0, x4, x5, x6 => if x6 < (x0.size : Int) then (if 0 ≤ x6 then ((spec_LetterOf.f k (bt x0 x6)).bind fun t276 => ((spec_WidthOf.f t276).bind fun t277 => (if t277 > x5 then (some ((x4) % 4294967296, x6)) else ((spec_BitsOf.f t276).bind fun t278 => (if 0 ≤ (IntKind.u64.wrap (wrap64 (x5 - t277))) then (spec_l03One.l0 k x0 (wrap64 (x4 + (shl .i64 (wrap64 (t278)) (IntKind.u64.wrap (wrap64 (x5 - t277)))))) (wrap64 (x5 - t277)) (wrap64 (x6 + 1))) else (none)))))) else (none)) else (some ((x4) % 4294967296, x6))
def spec_l03One.f (k : Nat) (a0 : ByteArray) : Option (Int × Int) := spec_l03One.l0 k a0 0 28 0
theorem spec_l03One.mono_l : ∀ k, (∀ y0 y1 y2 y3, LeO (spec_l03One.l0 k y0 y1 y2 y3) (spec_l03One.l0 (k + 1) y0 y1 y2 y3))
 | 0 => fun _ _ _ _ r h => by simp [spec_l03One.l0] at h
 | k + 1 => by
  have ih0 := spec_l03One.mono_l k
  ·intro y0 y1 y2 y3
   unfold spec_l03One.l0
   repeat' first
   | (with_reducible exact ih0 _ _ _ _)
   | (with_reducible exact spec_LetterOf.mono _ _)
   | (with_reducible exact LeO.refl _)
   | (with_reducible exact LeO.none _)
   | (with_reducible refine LeO.ite ?_ ?_)
   | (with_reducible refine LeO.bind ?_ (fun _ => ?_))
   | exact ih0 _ _ _ _
   | exact spec_LetterOf.mono _ _
   | exact LeO.none _
   | refine LeO.ite ?_ ?_
   | refine LeO.bind ?_ (fun _ => ?_)
theorem spec_l03One.mono : ∀ a0 k, LeO (spec_l03One.f k a0) (spec_l03One.f (k + 1) a0) := by
 intro a0 k
 have ih0 := spec_l03One.mono_l k
 unfold spec_l03One.f
 repeat' first
   | (with_reducible exact ih0 _ _ _ _)
   | (with_reducible exact spec_LetterOf.mono _ _)
   | (with_reducible exact LeO.refl _)
   | (with_reducible exact LeO.none _)
   | (with_reducible refine LeO.ite ?_ ?_)
   | (with_reducible refine LeO.bind ?_ (fun _ => ?_))
   | exact ih0 _ _ _ _
   | exact spec_LetterOf.mono _ _
   | exact LeO.none _
   | refine LeO.ite ?_ ?_
   | refine LeO.bind ?_ (fun _ => ?_)
set_option maxHeartbeats 8000000 in
set_option maxRecDepth 100000 in
theorem spec_l03One.calls (k : Nat) (a0 : ByteArray) (r1 : Int) (r2 : Int) (w : World) (h : spec_l03One.f k a0 = some (r1, r2)) :
  Calls Try.prog 127 #[.string a0] w fun e w' => e = .returned (.tuple #[.int .u32 r1, .int .i64 r2]) ∧ Drawn0 w w' := by
 have H : (spec_l03One.l0 k a0 0 28 0) = some (r1, r2) := h
 clear h
 have H' := Aside0.mk H
 clear H
 go_enter Try.func127, Try.ntmps127
 go_wp2
 go_loopg [4, 5, 6] k (fun kq v4 v5 v6 w' => ∃ (x4_1 : Int) (x5_1 : Int) (x6_1 : Int), v4 = .int .i64 x4_1 ∧ v5 = .int .i64 x5_1 ∧ v6 = .int .i64 x6_1 ∧ Aside0 (spec_l03One.l0 kq a0 x4_1 x5_1 x6_1 = some (r1, r2)) ∧ Aside0 (kq ≤ k) ∧ Drawn0 w w')
 case atStart => exact ⟨(0), (28), (0), Z2, Z2, Z2, H', ⟨Nat.le_refl _⟩, Z3⟩
 case round =>
  clear H'
  try clear c1
  obtain ⟨x4_1, x5_1, x6_1, rfl, rfl, rfl, HA, HK1, ⟨m1, rfl⟩⟩ := hrel
  cases gk with
  | zero => exact absurd HA.out (by simp [spec_l03One.l0])
  | succ k1 =>
   have H := HA.out
   clear HA
   simp only [spec_l03One.l0] at H
   by_cases c2 : x6_1 < (a0.size : Int)
   ·rw [if_pos c2] at H
    have c2b0 : decide (x6_1 < (a0.size : Int)) = true := decide_eq_true c2
    clear c2
    by_cases c3 : 0 ≤ x6_1
    ·rw [if_pos c3] at H
     have c3b0 : decide (0 ≤ x6_1) = true := decide_eq_true c3
     clear c3
     replace H := Option.bind_eq_some_iff.mp H
     obtain ⟨t276, A50, H⟩ := H
     replace H : ((spec_WidthOf.f t276).bind fun t277 => (if t277 > x5_1 then (some ((x4_1) % 4294967296, x6_1)) else ((spec_BitsOf.f t276).bind fun t278 => (if 0 ≤ (IntKind.u64.wrap (wrap64 (x5_1 - t277))) then (spec_l03One.l0 k1 a0 (wrap64 (x4_1 + (shl .i64 (wrap64 (t278)) (IntKind.u64.wrap (wrap64 (x5_1 - t277)))))) (wrap64 (x5_1 - t277)) (wrap64 (x6_1 + 1))) else (none))))) = some (r1, r2) := H
     have A5 := Aside0.mk A50
     clear A50
     replace H := Option.bind_eq_some_iff.mp H
     obtain ⟨t277, A60, H⟩ := H
     replace H : (if t277 > x5_1 then (some ((x4_1) % 4294967296, x6_1)) else ((spec_BitsOf.f t276).bind fun t278 => (if 0 ≤ (IntKind.u64.wrap (wrap64 (x5_1 - t277))) then (spec_l03One.l0 k1 a0 (wrap64 (x4_1 + (shl .i64 (wrap64 (t278)) (IntKind.u64.wrap (wrap64 (x5_1 - t277)))))) (wrap64 (x5_1 - t277)) (wrap64 (x6_1 + 1))) else (none)))) = some (r1, r2) := H
     have A6 := Aside0.mk A60
     clear A60
     by_cases c7 : t277 > x5_1
     ·rw [if_pos c7] at H
      have c7b0 : decide (x5_1 < t277) = true := decide_eq_true c7
      clear c7
      simp only [Option.some.injEq, Prod.mk.injEq] at H
      obtain ⟨rfl, rfl⟩ := H
      have p4 : 0 ≤ (x6_1 : Int) := of_decide_eq_true Z5
      have q4 : x6_1 < (a0.size : Int) := of_decide_eq_true Z5
      have hx4 := bt_at a0 x6_1
      replace p4 := eq_true p4
      replace q4 := eq_true q4
      go_wp2_with (first | ((with_reducible refine gate_callee (f := 132) rfl ?_); refine goesL_ (some 16) rfl rfl Try.func132 Z0 rfl #[.int .u8 (bt a0 x6_1)] rfl Z4 ?_; (with_reducible refine (spec_LetterOf.calls k1 (bt a0 x6_1) t276 _ A5.out).mono ?_); rintro e w' ⟨rfl, ⟨nd, rfl⟩⟩; refine ⟨_, rfl, ?_⟩) | ((with_reducible refine gate_callee (f := 128) rfl ?_); refine goesL_ (some 18) rfl rfl Try.func128 Z0 rfl #[.int .i64 t276] rfl Z4 ?_; (with_reducible refine (spec_WidthOf.calls t276 t277 _ A6.out).mono ?_); rintro e w' ⟨rfl, ⟨nd, rfl⟩⟩; refine ⟨_, rfl, ?_⟩))
      go_ret2
      exact ⟨Z2, Z3⟩
     ·rw [if_neg c7] at H
      have c7b0 : decide (x5_1 < t277) = false := decide_eq_false c7
      clear c7
      replace H := Option.bind_eq_some_iff.mp H
      obtain ⟨t278, A80, H⟩ := H
      replace H : (if 0 ≤ (IntKind.u64.wrap (wrap64 (x5_1 - t277))) then (spec_l03One.l0 k1 a0 (wrap64 (x4_1 + (shl .i64 (wrap64 (t278)) (IntKind.u64.wrap (wrap64 (x5_1 - t277)))))) (wrap64 (x5_1 - t277)) (wrap64 (x6_1 + 1))) else (none)) = some (r1, r2) := H
      have A8 := Aside0.mk A80
      clear A80
      obtain ⟨ji9, hji9⟩ : ∃ j_ : Int, (IntKind.u64.wrap (wrap64 (x5_1 - t277))) = j_ := ⟨_, rfl⟩
      replace H : (if 0 ≤ (ji9) then (spec_l03One.l0 k1 a0 (wrap64 (x4_1 + (shl .i64 (wrap64 (t278)) (ji9)))) (wrap64 (x5_1 - t277)) (wrap64 (x6_1 + 1))) else (none)) = some (r1, r2) := Z39
      (try rw [hji9] at A5)
      (try rw [hji9] at A6)
      (try rw [hji9] at A8)
      by_cases c10 : 0 ≤ (ji9)
      ·rw [if_pos c10] at H
       have c10b0 := eq_true c10
       have c10b1 : decide (0 ≤ (ji9)) = true := decide_eq_true c10
       clear c10
       obtain ⟨ji11, hji11⟩ : ∃ j_ : Int, (shl .i64 (wrap64 (t278)) (ji9)) = j_ := ⟨_, rfl⟩
       replace H : (spec_l03One.l0 k1 a0 (wrap64 (x4_1 + (ji11))) (wrap64 (x5_1 - t277)) (wrap64 (x6_1 + 1))) = some (r1, r2) := Z38
       (try rw [hji11] at A5)
       (try rw [hji11] at A6)
       (try rw [hji11] at A8)
       have hji11_ : (IntKind.i64.wrap ((wrap64 (t278)) * 2 ^ min (ji9).toNat 64)) = ji11 := hji11
       have hji11z : (ji9) ≤ 64 → (IntKind.i64.wrap ((wrap64 (t278)) * 2 ^ (ji9).toNat)) = ji11 := shl_small hji11
       have hji11y : (wrap64 ((wrap64 (t278)) * 2 ^ min (ji9).toNat 64)) = ji11 := (i64_w _).symm.trans hji11_
       have hji11x : (ji9) ≤ 64 → (wrap64 ((wrap64 (t278)) * 2 ^ (ji9).toNat)) = ji11 := fun h_ => (i64_w _).symm.trans (hji11z h_)
       have H' := Aside0.mk H
       clear H
       have p4 : 0 ≤ (x6_1 : Int) := of_decide_eq_true Z5
       have q4 : x6_1 < (a0.size : Int) := of_decide_eq_true Z5
       have hx4 := bt_at a0 x6_1
       replace p4 := eq_true p4
       replace q4 := eq_true q4
       go_wp2_with (first | ((with_reducible refine gate_callee (f := 132) rfl ?_); refine goesL_ (some 16) rfl rfl Try.func132 Z0 rfl #[.int .u8 (bt a0 x6_1)] rfl Z4 ?_; (with_reducible refine (spec_LetterOf.calls k1 (bt a0 x6_1) t276 _ A5.out).mono ?_); rintro e w' ⟨rfl, ⟨nd, rfl⟩⟩; refine ⟨_, rfl, ?_⟩) | ((with_reducible refine gate_callee (f := 128) rfl ?_); refine goesL_ (some 18) rfl rfl Try.func128 Z0 rfl #[.int .i64 t276] rfl Z4 ?_; (with_reducible refine (spec_WidthOf.calls t276 t277 _ A6.out).mono ?_); rintro e w' ⟨rfl, ⟨nd, rfl⟩⟩; refine ⟨_, rfl, ?_⟩) | ((with_reducible refine gate_callee (f := 129) rfl ?_); refine goesL_ (some 27) rfl rfl Try.func129 Z0 rfl #[.int .i64 t276] rfl Z4 ?_; (with_reducible refine (spec_BitsOf.calls t276 t278 _ A8.out).mono ?_); rintro e w' ⟨rfl, ⟨nd, rfl⟩⟩; refine ⟨_, rfl, ?_⟩))
       go_roundg k1
       case measure => have := HK1.out; omega
       case rel => exact ⟨(wrap64 (x4_1 + (ji11))), (wrap64 (x5_1 - t277)), (wrap64 (x6_1 + 1)), (by first | rfl | (simp; done) | (simp only [← hji11] <;> (first | rfl | simp)) | (simp [*]; done)), Z2, Z2, H', ⟨Z6⟩, Z3⟩
      ·rw [if_neg c10] at H
       exact absurd H (by simp)
    ·rw [if_neg c3] at H
     exact absurd H (by simp)
   ·rw [if_neg c2] at H
    have c2b0 : decide (x6_1 < (a0.size : Int)) = false := decide_eq_false c2
    clear c2
    simp only [Option.some.injEq, Prod.mk.injEq] at H
    obtain ⟨rfl, rfl⟩ := H
    go_wp2
    go_ret2
    exact ⟨Z2, Z3⟩

/-! ### spec_Pack: function 116 -/
def spec_Pack.l0 : Nat → ByteArray → List Int → Option (List Int)
 | 0, _, _ => none
 | k + 1, x0, x3 => if x0.toList = ([] : List UInt8) then (some x3) else ((spec_l03One.f k x0).bind fun bt283 => (if x3.length < 35184372088832 then (if 0 ≤ bt283.2 then (if bt283.2 ≤ (x0.size : Int) then (spec_Pack.l0 k (x0.extract (bt283.2 : Int).toNat x0.size) (x3 ++ [bt283.1])) else (none)) else (none)) else (none)))
def spec_Pack.f (k : Nat) (a0 : ByteArray) : Option (List Int) := (some (([] : List Int) : List Int)).bind fun y279 => ((spec_NameOk.f k a0).bind fun t282 => (if t282 = true then (spec_Pack.l0 k a0 y279) else (some y279)))
theorem spec_Pack.mono_l : ∀ k, (∀ y0 y1, LeO (spec_Pack.l0 k y0 y1) (spec_Pack.l0 (k + 1) y0 y1))
 | 0 => fun _ _ r h => by simp [spec_Pack.l0] at h
 | k + 1 => by
  have ih0 := spec_Pack.mono_l k
  ·intro y0 y1
   unfold spec_Pack.l0
   repeat' first
   | (with_reducible exact ih0 _ _)
   | (with_reducible exact spec_NameOk.mono _ _)
   | (with_reducible exact spec_l03One.mono _ _)
   | (with_reducible exact LeO.refl _)
   | (with_reducible exact LeO.none _)
   | (with_reducible refine LeO.ite ?_ ?_)
   | (with_reducible refine LeO.bind ?_ (fun _ => ?_))
   | exact ih0 _ _
   | exact spec_NameOk.mono _ _
   | exact spec_l03One.mono _ _
   | exact LeO.none _
   | refine LeO.ite ?_ ?_
   | refine LeO.bind ?_ (fun _ => ?_)
theorem spec_Pack.mono : ∀ a0 k, LeO (spec_Pack.f k a0) (spec_Pack.f (k + 1) a0) := by
 intro a0 k
 have ih0 := spec_Pack.mono_l k
 unfold spec_Pack.f
 repeat' first
   | (with_reducible exact ih0 _ _)
   | (with_reducible exact spec_NameOk.mono _ _)
   | (with_reducible exact spec_l03One.mono _ _)
   | (with_reducible exact LeO.refl _)
   | (with_reducible exact LeO.none _)
   | (with_reducible refine LeO.ite ?_ ?_)
   | (with_reducible refine LeO.bind ?_ (fun _ => ?_))
   | exact ih0 _ _
   | exact spec_NameOk.mono _ _
   | exact spec_l03One.mono _ _
   | exact LeO.none _
   | refine LeO.ite ?_ ?_
   | refine LeO.bind ?_ (fun _ => ?_)
set_option maxHeartbeats 8000000 in
set_option maxRecDepth 100000 in
theorem spec_Pack.calls (k : Nat) (a0 : ByteArray) (r : List Int) (w : World) (h : spec_Pack.f k a0 = some r) :
  Calls Try.prog 116 #[.string a0] w fun e w' => ∃ v0_ : Value, e = .returned (v0_) ∧ Kd.R (Kd.int .u32) 47 w' w.heap.size (fun _ => True) v0_ r ∧ Below w.heap.size w w' := by
 have HB := Z (Below.refl w.heap.size w)
 have H : ((some (([] : List Int) : List Int)).bind fun y279 => ((spec_NameOk.f k a0).bind fun t282 => (if t282 = true then (spec_Pack.l0 k a0 y279) else (some y279)))) = some r := h
 clear h
 obtain ⟨y279, hy279⟩ : ∃ y_ : List Int, y_ = (([] : List Int)) := ⟨_, rfl⟩
 replace H : ((spec_NameOk.f k a0).bind fun t282 => (if t282 = true then (spec_Pack.l0 k a0 y279) else (some y279))) = some r := by first | (rw [hy279]; with_reducible exact H) | (have H2_ := (Option.bind_some _ _).symm.trans H; rw [hy279]; with_reducible exact H2_) | (have H2_ := (Option.bind_some _ _).symm.trans H; with_reducible exact H2_) | with_reducible exact H | (rw [hy279]; exact H) | exact H
 have Ny279 := Aside0.mk hy279
 clear hy279
 replace H := Option.bind_eq_some_iff.mp H
 obtain ⟨t282, A20, H⟩ := H
 replace H : (if t282 = true then (spec_Pack.l0 k a0 y279) else (some y279)) = some r := H
 have A2 := Aside0.mk A20
 clear A20
 by_cases c3 : t282 = true
 ·subst c3
  have H1 : (spec_Pack.l0 k a0 y279) = some r := Z7
  clear H
  have H := H1
  clear H1
  have H' := Aside0.mk H
  clear H
  go_enter Try.func116, Try.ntmps116
  go_wp2_with (first | ((with_reducible refine gate_dst (N := 6) rfl ?_); refine Kd.R_lit (Kd.int .u32) _ 47 (by rfl) (N := 6) (by rfl) (xs := ([] : List Int)) (inner := []) (ok := fun _ => True) (okp := fun _ => True) Z10 (Reps.none _ _) (fun _ hk => hk) trivial (Below.refl _ _) (Nat.le_refl _) (by simp) ?_; intro v280 w4 ho5 hb hg_ hnew_; clear hg_ hnew_; (first | rw [← Ny279.out] at ho5 | (simp only [Int.reduceToNat] at ho5; rw [← Ny279.out] at ho5)); have HO281 := Z (Kd.R_lower ho5 (below_size Z62)); replace HB := Z (below_step Z62 hb); clear hb ho5) | ((with_reducible refine gate_callee (f := 125) rfl ?_); refine goesL_ (some 8) rfl rfl Try.func125 Z0 rfl #[.string a0] rfl Z4 ?_; (with_reducible refine (spec_NameOk.calls k a0 true _ A2.out).mono ?_); rintro e w' ⟨rfl, ⟨nd, rfl⟩⟩; refine ⟨_, rfl, ?_⟩))
  go_loopg [0, 3] k (fun kq v0 v3 w' => ∃ (x0_1 : ByteArray) (x3_1 : List Int), v0 = .string x0_1 ∧ Aside0 (spec_Pack.l0 kq x0_1 x3_1 = some r) ∧ Aside0 (kq ≤ k) ∧ Aside0 (Kd.R (Kd.int .u32) 47 w' w.heap.size (fun _ => True) v3 x3_1) ∧ Aside0 (Below w.heap.size w w'))
  case atStart => exact ⟨(a0), (y279), Z2, H', ⟨Nat.le_refl _⟩, ⟨(Z12 HO281)⟩, ⟨Z62⟩⟩
  case round =>
   clear H'
   try clear c1
   try clear p2
   try clear c3
   obtain ⟨x0_1, x3_1, rfl, HA, HK1, HO_3, HB⟩ := hrel
   cases gk with
   | zero => exact absurd HA.out (by simp [spec_Pack.l0])
   | succ k1 =>
    have H := HA.out
    clear HA
    simp only [spec_Pack.l0] at H
    by_cases c6 : x0_1.toList = ([] : List UInt8)
    ·rw [if_pos c6] at H
     have c6b0 : (x0_1.toList == ([] : List UInt8)) = true := beq_iff_eq.mpr c6
     have c6b1 : (x0_1.toList != ([] : List UInt8)) = false := bne_eq_false_iff_eq.mpr c6
     clear c6
     obtain rfl := Option.some.inj H
     go_wp2
     go_ret
     exact ⟨_, Z13, (Z12 HO_3), Z62⟩
    ·rw [if_neg c6] at H
     have c6b0 : (x0_1.toList == ([] : List UInt8)) = false := beq_eq_false_iff_ne.mpr c6
     have c6b1 : (x0_1.toList != ([] : List UInt8)) = true := bne_iff_ne.mpr c6
     replace H := Option.bind_eq_some_iff.mp H
     obtain ⟨⟨t283, t284⟩, A70, H⟩ := H
     replace H : (if x3_1.length < 35184372088832 then (if 0 ≤ t284 then (if t284 ≤ (x0_1.size : Int) then (spec_Pack.l0 k1 (x0_1.extract (t284 : Int).toNat x0_1.size) (x3_1 ++ [t283])) else (none)) else (none)) else (none)) = some r := H
     have A7 := Aside0.mk A70
     clear A70
     by_cases c8 : x3_1.length < 35184372088832
     ·rw [if_pos c8] at H
      have LMc8 := Aside0.mk c8
      clear c8
      obtain ⟨y285, hy285⟩ : ∃ y_ : List Int, y_ = (x3_1 ++ [t283]) := ⟨_, rfl⟩
      replace H : (if 0 ≤ t284 then (if t284 ≤ (x0_1.size : Int) then (spec_Pack.l0 k1 (x0_1.extract (t284 : Int).toNat x0_1.size) y285) else (none)) else (none)) = some r := by first | (rw [hy285]; with_reducible exact H) | (have H2_ := (Option.bind_some _ _).symm.trans H; rw [hy285]; with_reducible exact H2_) | (have H2_ := (Option.bind_some _ _).symm.trans H; with_reducible exact H2_) | with_reducible exact H | (rw [hy285]; exact H) | exact H
      have Ny285 := Aside0.mk hy285
      clear hy285
      by_cases c9 : 0 ≤ t284
      ·rw [if_pos c9] at H
       have c9b0 := eq_true c9
       have c9b1 : decide (0 ≤ t284) = true := decide_eq_true c9
       clear c9
       by_cases c10 : t284 ≤ (x0_1.size : Int)
       ·rw [if_pos c10] at H
        have c10b0 := eq_true c10
        have c10b1 : decide (t284 ≤ (x0_1.size : Int)) = true := decide_eq_true c10
        clear c10
        have H' := Aside0.mk H
        clear H
        go_wp2_with (first | ((with_reducible refine gate_callee (f := 127) rfl ?_); refine goesL_ (some 15) rfl rfl Try.func127 Z0 rfl #[.string x0_1] rfl Z4 ?_; (with_reducible refine (spec_l03One.calls k1 x0_1 t283 t284 _ A7.out).mono ?_); rintro e w' ⟨rfl, ⟨nd, rfl⟩⟩; refine ⟨_, rfl, ?_⟩) | ((with_reducible refine gate_builtin (b := .append) (xs := #[.tmp 18, .tmp 20]) rfl ?_); at_builtin; refine Kd.R_append (Kd.int .u32) (w0 := w) w.heap.size rfl (.tmp 18) (.tmp 20) 24 47 (.int .u32 0) 4 rfl Try.underlying24 info47 rfl (by decide) (by omega) u3 x3_1 t283 [.int .u32 t283] (fun _ => True) (fun _ => False) rfl rfl ?aP (fun _ hk => hk.elim) ?aF ?aO ?aB ?aS ?aL ?_; (case aP => exact rfl); (case aB => exact Z62); (case aF => exact (fun _ _ => trivial)); (case aO => exact (Z12 HO_3)); (case aS => exact (below_size Z62)); (case aL => have := LMc8.out; omega); intro v286 w11 ho hb hg hat; rw [← Ny285.out] at ho; replace HB := Z (hb); have HO287 := Z (ho); clear HO_3; clear ho hb hg hat))
        go_roundg k1
        case measure => have := HK1.out; omega
        case rel => exact ⟨(x0_1.extract (t284 : Int).toNat x0_1.size), (y285), Z2, H', ⟨Z6⟩, ⟨(Z12 HO287)⟩, ⟨Z62⟩⟩
       ·rw [if_neg c10] at H
        exact absurd H (by simp)
      ·rw [if_neg c9] at H
       exact absurd H (by simp)
     ·rw [if_neg c8] at H
      exact absurd H (by simp)
 ·replace c3 := Bool.eq_false_iff.mpr c3
  subst c3
  have H1 : (some y279) = some r := by rw [if_neg (show ¬ (false = true) by decide)] at H; exact H
  clear H
  have H := H1
  clear H1
  obtain rfl := Option.some.inj H
  go_enter Try.func116, Try.ntmps116
  go_wp2_with (first | ((with_reducible refine gate_dst (N := 6) rfl ?_); refine Kd.R_lit (Kd.int .u32) _ 47 (by rfl) (N := 6) (by rfl) (xs := ([] : List Int)) (inner := []) (ok := fun _ => True) (okp := fun _ => True) Z10 (Reps.none _ _) (fun _ hk => hk) trivial (Below.refl _ _) (Nat.le_refl _) (by simp) ?_; intro v280 w12 ho13 hb hg_ hnew_; clear hg_ hnew_; (first | rw [← Ny279.out] at ho13 | (simp only [Int.reduceToNat] at ho13; rw [← Ny279.out] at ho13)); have HO281 := Z (Kd.R_lower ho13 (below_size Z62)); replace HB := Z (below_step Z62 hb); clear hb ho13) | ((with_reducible refine gate_callee (f := 125) rfl ?_); refine goesL_ (some 8) rfl rfl Try.func125 Z0 rfl #[.string a0] rfl Z4 ?_; (with_reducible refine (spec_NameOk.calls k a0 false _ A2.out).mono ?_); rintro e w' ⟨rfl, ⟨nd, rfl⟩⟩; refine ⟨_, rfl, ?_⟩))
  go_ret
  exact ⟨_, Z13, (Z12 HO281), Z62⟩

end Go.Proofs.Ytkkiibjnpkjijaa.QFnExactParseCells
