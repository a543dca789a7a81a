/-
Plain functions for the Go functions that a law reaches, each with a proof that the translation's call comes to just that; no conditions beyond those written in each.
-/
import Derived.Test.YtkkiibjnpkjijaaSFnCells
import Derived.Test.YtkkiibjnpkjijaaQFnCellsx5
import Derived.Test.YtkkiibjnpkjijaaQFnCellsx6
import Derived.Test.YtkkiibjnpkjijaaQFnCellsx7
namespace Go.Proofs.Ytkkiibjnpkjijaa.QFnCells
open Go.RowKit Go.Proofs.YtkkiibjnpkjijaaW.PrintWords Go.Proofs.YtkkiibjnpkjijaaW.PrintLast Go.Proofs.YtkkiibjnpkjijaaW.PrintMore
attribute [local go_sem] max2_int min2_int max_two min_two max_three min_three max_four min_four   -- for this text's walks alone
set_option linter.unusedVariables false
set_option linter.unusedSimpArgs false

/-! ### impl_LetterAt: function 114 -/
def impl_LetterAt.f (a0 : Int) : Option (Int) := (impl_within.f a0 0 47).bind fun t451 => (if t451 = true then ((impl_letters.f).bind fun t452 => (if 0 ≤ a0 then (if a0 < (t452.size : Int) then (some (bt t452 a0)) else (none)) else (none))) else (some 0))
set_option maxHeartbeats 8000000 in
set_option maxRecDepth 100000 in
theorem impl_LetterAt.calls (a0 : Int) (r : Int) (w : World) (h : impl_LetterAt.f a0 = some r) :
  Calls Try.prog 114 #[.int .i64 a0] w fun e w' => e = .returned (.int .u8 r) ∧ Drawn0 w w' := by
 have H : ((impl_within.f a0 0 47).bind fun t451 => (if t451 = true then ((impl_letters.f).bind fun t452 => (if 0 ≤ a0 then (if a0 < (t452.size : Int) then (some (bt t452 a0)) else (none)) else (none))) else (some 0))) = some r := h
 clear h
 replace H := Option.bind_eq_some_iff.mp H
 obtain ⟨t451, A20, H⟩ := H
 replace H : (if t451 = true then ((impl_letters.f).bind fun t452 => (if 0 ≤ a0 then (if a0 < (t452.size : Int) then (some (bt t452 a0)) else (none)) else (none))) else (some 0)) = some r := H
 have A2 := Aside0.mk A20
 clear A20
 by_cases c3 : t451 = true
 ·subst c3
  have H1 : ((impl_letters.f).bind fun t452 => (if 0 ≤ a0 then (if a0 < (t452.size : Int) then (some (bt t452 a0)) else (none)) else (none))) = some r := Z11
  clear H
  have H := H1
  clear H1
  replace H := Option.bind_eq_some_iff.mp H
  obtain ⟨t452, A40, H⟩ := H
  replace H : (if 0 ≤ a0 then (if a0 < (t452.size : Int) then (some (bt t452 a0)) else (none)) else (none)) = some r := H
  have A4 := Aside0.mk A40
  clear A40
  by_cases c5 : 0 ≤ a0
  ·rw [if_pos c5] at H
   have c5b0 : decide (0 ≤ a0) = true := decide_eq_true c5
   clear c5
   by_cases c6 : a0 < (t452.size : Int)
   ·rw [if_pos c6] at H
    have c6b0 : decide (a0 < (t452.size : Int)) = true := decide_eq_true c6
    clear c6
    obtain rfl := Option.some.inj H
    go_enter Try.func114, Try.ntmps114
    go_wp2_with (first | ((with_reducible refine gate_callee (f := 103) rfl ?_); refine goesL_ (some 4) rfl rfl Try.func103 Z0 rfl #[.int .i64 a0, .int .i64 0, .int .i64 47] rfl Z10 ?_; (with_reducible refine (impl_within.calls a0 0 47 true _ A2.out).mono ?_); rintro e w' ⟨rfl, ⟨nd, rfl⟩⟩; refine ⟨_, rfl, ?_⟩) | ((with_reducible refine gate_callee (f := 124) rfl ?_); refine goesL_ (some 6) rfl rfl Try.func124 Z0 rfl #[] rfl Z10 ?_; (with_reducible refine (impl_letters.calls  t452 _ A4.out).mono ?_); rintro e w' ⟨rfl, ⟨nd, rfl⟩⟩; refine ⟨_, rfl, ?_⟩; have p7 : 0 ≤ (a0 : Int) := of_decide_eq_true Z5; have q7 : a0 < (t452.size : Int) := of_decide_eq_true Z5; have hx7 := bt_at t452 a0; replace p7 := eq_true p7; replace q7 := eq_true q7))
    go_ret
    exact ⟨Z2, Z3⟩
   ·rw [if_neg c6] at H
    exact absurd H (by simp)
  ·rw [if_neg c5] at H
   exact absurd H (by simp)
 ·replace c3 := Bool.eq_false_iff.mpr c3
  subst c3
  have H1 : (some 0) = some r := by rw [if_neg (show ¬ (false = true) by decide)] at H; exact H
  clear H
  have H := H1
  clear H1
  obtain rfl := Option.some.inj H
  go_enter Try.func114, Try.ntmps114
  go_wp2_with (first | ((with_reducible refine gate_callee (f := 103) rfl ?_); refine goesL_ (some 4) rfl rfl Try.func103 Z0 rfl #[.int .i64 a0, .int .i64 0, .int .i64 47] rfl Z10 ?_; (with_reducible refine (impl_within.calls a0 0 47 false _ A2.out).mono ?_); rintro e w' ⟨rfl, ⟨nd, rfl⟩⟩; refine ⟨_, rfl, ?_⟩))
  go_ret
  exact ⟨Z2, Z3⟩

/-! ### impl_UnpackOne: function 92 -/
def impl_UnpackOne.l0 : Nat → Int → List Int → Int → Option (ByteArray)
 | 0, _, _, _ => none
 | k + 1, x0, x3, x4 => if 0 ≤ x4 then (if (Go.bits .and .u32 x0 (((shl .u32 1 x4) - 1) % 4294967296)) = 0 then (some (strOfNums x3)) else ((impl_Decode.f k x0 x4).bind fun bt456 => (if bt456.1 < 1 then (some (strOfNums x3)) else ((impl_LetterAt.f bt456.1).bind fun t458 => (if x3.length < 140737488355328 then (impl_UnpackOne.l0 k x0 (x3 ++ [t458]) (wrap64 (x4 - bt456.2))) else (none)))))) else (none)
def impl_UnpackOne.f (k : Nat) (a0 : Int) : Option (ByteArray) := if a0 ≥ 268435456 then (some (⟨#[]⟩ : ByteArray)) else (impl_UnpackOne.l0 k a0 (([] : List Int)) 28)
theorem impl_UnpackOne.mono_l : ∀ k, (∀ y0 y1 y2, LeO (impl_UnpackOne.l0 k y0 y1 y2) (impl_UnpackOne.l0 (k + 1) y0 y1 y2))
 | 0 => fun _ _ _ r h => by simp [impl_UnpackOne.l0] at h
 | k + 1 => by
  have ih0 := impl_UnpackOne.mono_l k
  ·intro y0 y1 y2
   unfold impl_UnpackOne.l0
   repeat' first
   | (with_reducible exact ih0 _ _ _)
   | (with_reducible exact impl_Decode.mono _ _ _)
   | (with_reducible exact LeO.refl _)
   | (with_reducible exact LeO.none _)
   | (with_reducible refine LeO.ite ?_ ?_)
   | (with_reducible refine LeO.bind ?_ (fun _ => ?_))
   | exact ih0 _ _ _
   | exact impl_Decode.mono _ _ _
   | exact LeO.none _
   | refine LeO.ite ?_ ?_
   | refine LeO.bind ?_ (fun _ => ?_)
theorem impl_UnpackOne.mono : ∀ a0 k, LeO (impl_UnpackOne.f k a0) (impl_UnpackOne.f (k + 1) a0) := by
 intro a0 k
 have ih0 := impl_UnpackOne.mono_l k
 unfold impl_UnpackOne.f
 repeat' first
   | (with_reducible exact ih0 _ _ _)
   | (with_reducible exact impl_Decode.mono _ _ _)
   | (with_reducible exact LeO.refl _)
   | (with_reducible exact LeO.none _)
   | (with_reducible refine LeO.ite ?_ ?_)
   | (with_reducible refine LeO.bind ?_ (fun _ => ?_))
   | exact ih0 _ _ _
   | exact impl_Decode.mono _ _ _
   | exact LeO.none _
   | refine LeO.ite ?_ ?_
   | refine LeO.bind ?_ (fun _ => ?_)
set_option maxHeartbeats 8000000 in
set_option maxRecDepth 100000 in
theorem impl_UnpackOne.calls (k : Nat) (a0 : Int) (r : ByteArray) (w : World) (h : impl_UnpackOne.f k a0 = some r) :
  Calls Try.prog 92 #[.int .u32 a0] w fun e w' => e = .returned (.string r) ∧ Below w.heap.size w w' := by
 have HB := Z (Below.refl w.heap.size w)
 have H : (if a0 ≥ 268435456 then (some (⟨#[]⟩ : ByteArray)) else (impl_UnpackOne.l0 k a0 (([] : List Int)) 28)) = some r := h
 clear h
 by_cases c2 : a0 ≥ 268435456
 ·rw [if_pos c2] at H
  have c2b0 : decide (268435456 ≤ a0) = true := decide_eq_true c2
  clear c2
  obtain rfl := Option.some.inj H
  go_enter Try.func92, Try.ntmps92
  go_wp2
  go_ret
  exact ⟨Z9, Z63⟩
 ·rw [if_neg c2] at H
  have c2b0 : decide (268435456 ≤ a0) = false := decide_eq_false c2
  clear c2
  obtain ⟨y453, hy453⟩ : ∃ y_ : List Int, y_ = (([] : List Int)) := ⟨_, rfl⟩
  replace H : (impl_UnpackOne.l0 k a0 y453 28) = some r := by first | (rw [hy453]; with_reducible exact H) | (have H2_ := (Option.bind_some _ _).symm.trans H; rw [hy453]; with_reducible exact H2_) | (have H2_ := (Option.bind_some _ _).symm.trans H; with_reducible exact H2_) | with_reducible exact H | (rw [hy453]; exact H) | exact H
  have Ny453 := Aside0.mk hy453
  clear hy453
  have H' := Aside0.mk H
  clear H
  go_enter Try.func92, Try.ntmps92
  go_wp2_with (first | ((with_reducible refine gate_dst (N := 9) rfl ?_); refine Kd.R_lit (Kd.int .u8) _ 5 (by rfl) (N := 9) (by rfl) (xs := ([] : List Int)) (inner := []) (ok := fun _ => True) (okp := fun _ => True) Z7 (Reps.none _ _) (fun _ hk => hk) trivial (Below.refl _ _) (Nat.le_refl _) (by simp) ?_; intro v454 w3 ho4 hb hg_ hnew_; clear hg_ hnew_; (first | rw [← Ny453.out] at ho4 | (simp only [Int.reduceToNat] at ho4; rw [← Ny453.out] at ho4)); have HO455 := Z (Kd.R_lower ho4 (below_size Z63)); replace HB := Z (below_step Z63 hb); clear hb ho4))
  go_loopg [3, 4] k (fun kq v3 v4 w' => ∃ (x3_1 : List Int) (x4_1 : Int), v4 = .int .i64 x4_1 ∧ Aside0 (impl_UnpackOne.l0 kq a0 x3_1 x4_1 = some r) ∧ Aside0 (kq ≤ k) ∧ Aside0 (Kd.R (Kd.int .u8) 5 w' w.heap.size (fun _ => True) v3 x3_1) ∧ Aside0 (Below w.heap.size w w'))
  case atStart => exact ⟨(y453), (28), Z2, H', ⟨Nat.le_refl _⟩, ⟨(Z12 HO455)⟩, ⟨Z63⟩⟩
  case round =>
   clear H'
   try clear c2
   try clear c2b0
   try clear p2
   obtain ⟨x3_1, x4_1, rfl, HA, HK1, HO_3, HB⟩ := hrel
   cases gk with
   | zero => exact absurd HA.out (by simp [impl_UnpackOne.l0])
   | succ k1 =>
    have H := HA.out
    clear HA
    simp only [impl_UnpackOne.l0] at H
    by_cases c5 : 0 ≤ x4_1
    ·rw [if_pos c5] at H
     have c5b0 := eq_true c5
     have c5b1 : decide (0 ≤ x4_1) = true := decide_eq_true c5
     clear c5
     obtain ⟨ji6, hji6⟩ : ∃ j_ : Int, (shl .u32 1 x4_1) = j_ := ⟨_, rfl⟩
     replace H : (if (Go.bits .and .u32 a0 (((ji6) - 1) % 4294967296)) = 0 then (some (strOfNums x3_1)) else ((impl_Decode.f k1 a0 x4_1).bind fun bt456 => (if bt456.1 < 1 then (some (strOfNums x3_1)) else ((impl_LetterAt.f bt456.1).bind fun t458 => (if x3_1.length < 140737488355328 then (impl_UnpackOne.l0 k1 a0 (x3_1 ++ [t458]) (wrap64 (x4_1 - bt456.2))) else (none)))))) = some r := by first | (rw [hji6] at H; exact H) | (simp only [hji6] at H ⊢; exact H)
     have hji6_ : (IntKind.u32.wrap (1 * 2 ^ min x4_1.toNat 32)) = ji6 := hji6
     have hji6z : x4_1 ≤ 32 → (IntKind.u32.wrap (1 * 2 ^ x4_1.toNat)) = ji6 := shl_small hji6
     have hji6u : (IntKind.u32.wrap (2 ^ min x4_1.toNat 32)) = ji6 := by have h_ := hji6_; rw [Int.one_mul] at h_; exact h_
     have hji6v : x4_1 ≤ 32 → (IntKind.u32.wrap (2 ^ x4_1.toNat)) = ji6 := fun hle_ => by have h_ := hji6z hle_; rw [Int.one_mul] at h_; exact h_
     by_cases c7 : (Go.bits .and .u32 a0 (((ji6) - 1) % 4294967296)) = 0
     ·rw [if_pos c7] at H
      have c7b0 : ((Go.bits .and .u32 a0 (((ji6) - 1) % 4294967296)) == 0) = true := beq_iff_eq.mpr c7
      have c7b1 : ((Go.bits .and .u32 a0 (((ji6) - 1) % 4294967296)) != 0) = false := bne_eq_false_iff_eq.mpr c7
      clear c7
      obtain rfl := Option.some.inj H
      have hcv8 := own_string (P := Try.prog) Try.underlying22 Try.underlying5 Try.underlying9 (Kd.own_of_R HO_3.out)
      have hcw8 := fun nq_ : Nat => own_string (P := Try.prog) Try.underlying22 Try.underlying5 Try.underlying9 (Kd.own_of_R (Kd.R_drewN HO_3.out nq_))
      go_wp2
      go_ret
      exact ⟨Z29, Z63⟩
     ·rw [if_neg c7] at H
      have c7b0 : ((Go.bits .and .u32 a0 (((ji6) - 1) % 4294967296)) == 0) = false := beq_eq_false_iff_ne.mpr c7
      have c7b1 : ((Go.bits .and .u32 a0 (((ji6) - 1) % 4294967296)) != 0) = true := bne_iff_ne.mpr c7
      replace H := Option.bind_eq_some_iff.mp H
      obtain ⟨⟨t456, t457⟩, A90, H⟩ := H
      replace H : (if t456 < 1 then (some (strOfNums x3_1)) else ((impl_LetterAt.f t456).bind fun t458 => (if x3_1.length < 140737488355328 then (impl_UnpackOne.l0 k1 a0 (x3_1 ++ [t458]) (wrap64 (x4_1 - t457))) else (none)))) = some r := H
      have A9 := Aside0.mk A90
      clear A90
      by_cases c10 : t456 < 1
      ·rw [if_pos c10] at H
       have c10b0 : decide (t456 < 1) = true := decide_eq_true c10
       clear c10
       obtain rfl := Option.some.inj H
       go_wp2_with (first | ((with_reducible refine gate_callee (f := 113) rfl ?_); refine goesL_ (some 19) rfl rfl Try.func113 Z0 rfl #[.int .u32 a0, .int .i64 x4_1] rfl Z10 ?_; (with_reducible refine (impl_Decode.calls k1 a0 x4_1 t456 t457 _ A9.out).mono ?_); rintro e w' ⟨rfl, ⟨nd, rfl⟩⟩; refine ⟨_, rfl, ?_⟩; have hcv11 := own_string (P := Try.prog) Try.underlying22 Try.underlying5 Try.underlying9 (Kd.own_of_R HO_3.out); have hcw11 := fun nq_ : Nat => own_string (P := Try.prog) Try.underlying22 Try.underlying5 Try.underlying9 (Kd.own_of_R (Kd.R_drewN HO_3.out nq_))))
       go_ret
       exact ⟨Z29, Z63⟩
      ·rw [if_neg c10] at H
       have c10b0 : decide (t456 < 1) = false := decide_eq_false c10
       clear c10
       replace H := Option.bind_eq_some_iff.mp H
       obtain ⟨t458, A120, H⟩ := H
       replace H : (if x3_1.length < 140737488355328 then (impl_UnpackOne.l0 k1 a0 (x3_1 ++ [t458]) (wrap64 (x4_1 - t457))) else (none)) = some r := H
       have A12 := Aside0.mk A120
       clear A120
       by_cases c13 : x3_1.length < 140737488355328
       ·rw [if_pos c13] at H
        have LMc13 := Aside0.mk c13
        clear c13
        obtain ⟨y459, hy459⟩ : ∃ y_ : List Int, y_ = (x3_1 ++ [t458]) := ⟨_, rfl⟩
        replace H : (impl_UnpackOne.l0 k1 a0 y459 (wrap64 (x4_1 - t457))) = some r := by first | (rw [hy459]; with_reducible exact H) | (have H2_ := (Option.bind_some _ _).symm.trans H; rw [hy459]; with_reducible exact H2_) | (have H2_ := (Option.bind_some _ _).symm.trans H; with_reducible exact H2_) | with_reducible exact H | (rw [hy459]; exact H) | exact H
        have Ny459 := Aside0.mk hy459
        clear hy459
        have H' := Aside0.mk H
        clear H
        go_wp2_with (first | ((with_reducible refine gate_callee (f := 113) rfl ?_); refine goesL_ (some 19) rfl rfl Try.func113 Z0 rfl #[.int .u32 a0, .int .i64 x4_1] rfl Z10 ?_; (with_reducible refine (impl_Decode.calls k1 a0 x4_1 t456 t457 _ A9.out).mono ?_); rintro e w' ⟨rfl, ⟨nd, rfl⟩⟩; refine ⟨_, rfl, ?_⟩) | ((with_reducible refine gate_callee (f := 114) rfl ?_); refine goesL_ (some 26) rfl rfl Try.func114 Z0 rfl #[.int .i64 t456] rfl Z10 ?_; (with_reducible refine (impl_LetterAt.calls t456 t458 _ A12.out).mono ?_); rintro e w' ⟨rfl, ⟨nd, rfl⟩⟩; refine ⟨_, rfl, ?_⟩) | ((with_reducible refine gate_builtin (b := .append) (xs := #[.tmp 24, .tmp 27]) rfl ?_); at_builtin; refine Kd.R_append (Kd.int .u8) (w0 := w) w.heap.size rfl (.tmp 24) (.tmp 27) 22 5 (.int .u8 0) 1 rfl Try.underlying22 info5 rfl (by decide) (by omega) u3 x3_1 t458 [.int .u8 t458] (fun _ => True) (fun _ => False) rfl rfl ?aP (fun _ hk => hk.elim) ?aF ?aO ?aB ?aS ?aL ?_; (case aP => exact rfl); (case aB => exact Z63); (case aF => exact (fun _ _ => trivial)); (case aO => exact (Z12 HO_3)); (case aS => exact (below_size Z63)); (case aL => have := LMc13.out; omega); intro v460 w14 ho hb hg hat; rw [← Ny459.out] at ho; replace HB := Z (hb); have HO461 := Z (ho); clear HO_3; clear ho hb hg hat))
        go_roundg k1
        case measure => have := HK1.out; omega
        case rel => exact ⟨(y459), (wrap64 (x4_1 - t457)), Z2, H', ⟨Z6⟩, ⟨(Z12 HO461)⟩, ⟨Z63⟩⟩
       ·rw [if_neg c13] at H
        exact absurd H (by simp)
    ·rw [if_neg c5] at H
     exact absurd H (by simp)

/-! ### impl_Unpack: function 88 -/
def impl_Unpack.l0 : Nat → List Int → ByteArray → List Int → Int → Int → Option (ByteArray × Bool)
 | 0, _, _, _, _, _ => none
 | k + 1, x0, x4, x10, x11, x12 => if x12 < x11 then (if 0 ≤ x12 then (if x12 < (x10.length : Int) then ((impl_UnpackOne.f k (rd x10 x12)).bind fun t463 => (if x4.size + t463.size ≤ 9223372036854775807 then (impl_Unpack.l0 k x0 (x4 ++ t463) x10 x11 (wrap64 (x12 + 1))) else (none))) else (none)) else (none)) else ((impl_NameOk.f k x4).bind fun t464 => (if t464 = true then ((impl_Pack.f k x4).bind fun t465 => ((slices_Equal_uint32_uint32.f k t465 x0).bind fun t468 => (if t468 = true then (some (x4, true)) else (some ((⟨#[]⟩ : ByteArray), false))))) else (some ((⟨#[]⟩ : ByteArray), false))))
def impl_Unpack.f (k : Nat) (l0 : List Int) : Option (ByteArray × Bool) := if (l0.length : Int) > 24 then (some ((⟨#[]⟩ : ByteArray), false)) else (impl_Unpack.l0 k l0 (⟨#[]⟩ : ByteArray) l0 (l0.length : Int) 0)
theorem impl_Unpack.mono_l : ∀ k, (∀ y0 y1 y2 y3 y4, LeO (impl_Unpack.l0 k y0 y1 y2 y3 y4) (impl_Unpack.l0 (k + 1) y0 y1 y2 y3 y4))
 | 0 => fun _ _ _ _ _ r h => by simp [impl_Unpack.l0] at h
 | k + 1 => by
  have ih0 := impl_Unpack.mono_l k
  ·intro y0 y1 y2 y3 y4
   unfold impl_Unpack.l0
   repeat' first
   | (with_reducible exact ih0 _ _ _ _ _)
   | (with_reducible exact impl_NameOk.mono _ _)
   | (with_reducible exact impl_Pack.mono _ _)
   | (with_reducible exact impl_UnpackOne.mono _ _)
   | (with_reducible exact slices_Equal_uint32_uint32.mono _ _ _)
   | (with_reducible exact LeO.refl _)
   | (with_reducible exact LeO.none _)
   | (with_reducible refine LeO.ite ?_ ?_)
   | (with_reducible refine LeO.bind ?_ (fun _ => ?_))
   | exact ih0 _ _ _ _ _
   | exact impl_NameOk.mono _ _
   | exact impl_Pack.mono _ _
   | exact impl_UnpackOne.mono _ _
   | exact slices_Equal_uint32_uint32.mono _ _ _
   | exact LeO.none _
   | refine LeO.ite ?_ ?_
   | refine LeO.bind ?_ (fun _ => ?_)
theorem impl_Unpack.mono : ∀ a0 k, LeO (impl_Unpack.f k a0) (impl_Unpack.f (k + 1) a0) := by
 intro a0 k
 have ih0 := impl_Unpack.mono_l k
 unfold impl_Unpack.f
 repeat' first
   | (with_reducible exact ih0 _ _ _ _ _)
   | (with_reducible exact impl_NameOk.mono _ _)
   | (with_reducible exact impl_Pack.mono _ _)
   | (with_reducible exact impl_UnpackOne.mono _ _)
   | (with_reducible exact slices_Equal_uint32_uint32.mono _ _ _)
   | (with_reducible exact LeO.refl _)
   | (with_reducible exact LeO.none _)
   | (with_reducible refine LeO.ite ?_ ?_)
   | (with_reducible refine LeO.bind ?_ (fun _ => ?_))
   | exact ih0 _ _ _ _ _
   | exact impl_NameOk.mono _ _
   | exact impl_Pack.mono _ _
   | exact impl_UnpackOne.mono _ _
   | exact slices_Equal_uint32_uint32.mono _ _ _
   | exact LeO.none _
   | refine LeO.ite ?_ ?_
   | refine LeO.bind ?_ (fun _ => ?_)
set_option maxHeartbeats 8000000 in
set_option maxRecDepth 100000 in
theorem impl_Unpack.calls (k : Nat) (A0 : Option Addr) (c0 : Nat) (l0 : List Int) (r1 : ByteArray) (r2 : Bool) (w : World) (hr0 : Kd.C (Kd.int .u32) w A0 l0.length l0) (hc0 : l0.length ≤ c0) (h : impl_Unpack.f k l0 = some (r1, r2)) :
  Calls Try.prog 88 #[.slice A0 l0.length c0] w fun e w' => e = .returned (.tuple #[.string r1, .bool r2]) ∧ Below w.heap.size w w' := by
 have HR0 := Aside0.mk hr0
 have HC0 := Aside0.mk hc0
 clear hr0 hc0
 have HB := Z (Below.refl w.heap.size w)
 have H : (if (l0.length : Int) > 24 then (some ((⟨#[]⟩ : ByteArray), false)) else (impl_Unpack.l0 k l0 (⟨#[]⟩ : ByteArray) l0 (l0.length : Int) 0)) = some (r1, r2) := h
 clear h
 by_cases c2 : (l0.length : Int) > 24
 ·rw [if_pos c2] at H
  have c2b0 : decide (24 < (l0.length : Int)) = true := decide_eq_true c2
  have c2b1 : decide (24 < l0.length) = true := decide_eq_true (by omega)
  clear c2
  simp only [Option.some.injEq, Prod.mk.injEq] at H
  obtain ⟨rfl, rfl⟩ := H
  go_enter Try.func88, Try.ntmps88
  go_wp2
  go_ret2
  exact ⟨Z9, Z63⟩
 ·rw [if_neg c2] at H
  have c2b0 : decide (24 < (l0.length : Int)) = false := decide_eq_false c2
  have c2b1 : decide (24 < l0.length) = false := decide_eq_false (by omega)
  clear c2
  have H' := Aside0.mk H
  clear H
  go_enter Try.func88, Try.ntmps88
  go_wp2
  go_loopg [4, 12] k (fun kq v4 v12 w' => ∃ (x4_1 : ByteArray) (x12_1 : Int), v4 = .string x4_1 ∧ v12 = .int .i64 x12_1 ∧ Aside0 (impl_Unpack.l0 kq l0 x4_1 l0 (l0.length : Int) x12_1 = some (r1, r2)) ∧ Aside0 (kq ≤ k) ∧ Aside0 (Below w.heap.size w w'))
  case atStart => exact ⟨((⟨#[]⟩ : ByteArray)), (0), Z2, Z2, H', ⟨Nat.le_refl _⟩, ⟨Z63⟩⟩
  case round =>
   clear H'
   try clear c2
   try clear c2b0
   try clear c2b1
   try clear p2
   obtain ⟨x4_1, x12_1, rfl, rfl, HA, HK1, HB⟩ := hrel
   cases gk with
   | zero => exact absurd HA.out (by simp [impl_Unpack.l0])
   | succ k1 =>
    have H := HA.out
    clear HA
    simp only [impl_Unpack.l0] at H
    by_cases c3 : x12_1 < (l0.length : Int)
    ·rw [if_pos c3] at H
     have c3b0 : decide (x12_1 < (l0.length : Int)) = true := decide_eq_true c3
     clear c3
     by_cases c4 : 0 ≤ x12_1
     ·rw [if_pos c4] at H
      have c4b0 : decide (0 ≤ x12_1) = true := decide_eq_true c4
      clear c4
      by_cases c5 : x12_1 < (l0.length : Int)
      ·rw [if_pos c5] at H
       have c5b0 : decide (x12_1 < (l0.length : Int)) = true := decide_eq_true c5
       clear c5
       replace H := Option.bind_eq_some_iff.mp H
       obtain ⟨t463, A60, H⟩ := H
       replace H : (if x4_1.size + t463.size ≤ 9223372036854775807 then (impl_Unpack.l0 k1 l0 (x4_1 ++ t463) l0 (l0.length : Int) (wrap64 (x12_1 + 1))) else (none)) = some (r1, r2) := H
       have A6 := Aside0.mk A60
       clear A60
       by_cases c7 : x4_1.size + t463.size ≤ 9223372036854775807
       ·rw [if_pos c7] at H
        have c7b0 := eq_true c7
        have c7b1 : decide (x4_1.size + t463.size ≤ 9223372036854775807) = true := decide_eq_true c7
        try have c7b2 : (9223372036854775807 < x4_1.size + t463.size) = False := eq_false (Nat.not_lt.2 c7)
        have H' := Aside0.mk H
        clear H
        have p462 : 0 ≤ (x12_1 : Int) := of_decide_eq_true Z5
        have q462 : x12_1 < (l0.length : Int) := of_decide_eq_true Z5
        obtain ⟨ad462, e462, hx462_0⟩ := Kd.at_int HR0.out x12_1 p462 q462
        cases e462
        replace hx462_0 := (HB.out.cell (World.block_lt_of_cell? w _ hx462_0)).trans hx462_0
        replace p462 := eq_true p462
        replace q462 := eq_true q462
        go_wp2_with (first | ((with_reducible refine gate_callee (f := 92) rfl ?_); refine goesL_ (some 18) rfl rfl Try.func92 Z0 rfl #[.int .u32 (rd l0 x12_1)] rfl Z10 ?_; (with_reducible refine (impl_UnpackOne.calls k1 (rd l0 x12_1) t463 _ A6.out).mono ?_); rintro e w8 ⟨rfl, hb⟩; refine ⟨_, rfl, ?_⟩; replace HB := Z (below_step Z63 hb); (try clear hb); (try clear hb2); (try clear hk); (try clear hi)))
        go_roundg k1
        case measure => have := HK1.out; omega
        case rel => exact ⟨(x4_1 ++ t463), (wrap64 (x12_1 + 1)), Z2, Z2, H', ⟨Z6⟩, ⟨Z63⟩⟩
       ·rw [if_neg c7] at H
        exact absurd H (by simp)
      ·rw [if_neg c5] at H
       exact absurd H (by simp)
     ·rw [if_neg c4] at H
      exact absurd H (by simp)
    ·rw [if_neg c3] at H
     have c3b0 : decide (x12_1 < (l0.length : Int)) = false := decide_eq_false c3
     clear c3
     replace H := Option.bind_eq_some_iff.mp H
     obtain ⟨t464, A90, H⟩ := H
     replace H : (if t464 = true then ((impl_Pack.f k1 x4_1).bind fun t465 => ((slices_Equal_uint32_uint32.f k1 t465 l0).bind fun t468 => (if t468 = true then (some (x4_1, true)) else (some ((⟨#[]⟩ : ByteArray), false))))) else (some ((⟨#[]⟩ : ByteArray), false))) = some (r1, r2) := H
     have A9 := Aside0.mk A90
     clear A90
     by_cases c10 : t464 = true
     ·subst c10
      have H1 : ((impl_Pack.f k1 x4_1).bind fun t465 => ((slices_Equal_uint32_uint32.f k1 t465 l0).bind fun t468 => (if t468 = true then (some (x4_1, true)) else (some ((⟨#[]⟩ : ByteArray), false))))) = some (r1, r2) := Z11
      clear H
      have H := H1
      clear H1
      replace H := Option.bind_eq_some_iff.mp H
      obtain ⟨t465, A110, H⟩ := H
      replace H : ((slices_Equal_uint32_uint32.f k1 t465 l0).bind fun t468 => (if t468 = true then (some (x4_1, true)) else (some ((⟨#[]⟩ : ByteArray), false)))) = some (r1, r2) := H
      have A11 := Aside0.mk A110
      clear A110
      replace H := Option.bind_eq_some_iff.mp H
      obtain ⟨t468, A120, H⟩ := H
      replace H : (if t468 = true then (some (x4_1, true)) else (some ((⟨#[]⟩ : ByteArray), false))) = some (r1, r2) := H
      have A12 := Aside0.mk A120
      clear A120
      by_cases c13 : t468 = true
      ·subst c13
       have H1 : (some (x4_1, true)) = some (r1, r2) := Z11
       clear H
       have H := H1
       clear H1
       simp only [Option.some.injEq, Prod.mk.injEq] at H
       obtain ⟨rfl, rfl⟩ := H
       go_wp2_with (first | ((with_reducible refine gate_callee (f := 106) rfl ?_); refine goesL_ (some 22) rfl rfl Try.func106 Z0 rfl #[.string x4_1] rfl Z10 ?_; (with_reducible refine (impl_NameOk.calls k1 x4_1 true _ A9.out).mono ?_); rintro e w' ⟨rfl, ⟨nd, rfl⟩⟩; refine ⟨_, rfl, ?_⟩) | (go_at_call 78; (with_reducible refine (impl_Pack.calls k1 x4_1 t465 _ A11.out).mono ?_); rintro e w14 ⟨v466, rfl, ho0, hb⟩; have HO467 := Z (Kd.R_lower ho0 (below_size Z63)); replace HB := Z (below_step Z63 hb); (try clear hb); (try clear hb2); (try clear hk); (try clear hi); (try clear ho0); obtain ⟨Ao15, co15, eo15⟩ := Kd.R_slice HO467.out; subst eo15) | (go_at_call 90; (with_reducible refine (slices_Equal_uint32_uint32.calls k1 _ _ t465 _ _ l0 true _ ?side1 ?side2 ?side3 ?side4 A12.out).mono ?_); (case side1 => exact (Z17 HO467)); (case side2 => exact (Kd.R_reads' HO467.out).2.1); (case side3 => exact (Z30 HR0)); (case side4 => exact HC0.out); rintro e w' ⟨rfl, ⟨nd, rfl⟩⟩))
       go_ret2
       exact ⟨Z9, Z63⟩
      ·replace c13 := Bool.eq_false_iff.mpr c13
       subst c13
       have H1 : (some ((⟨#[]⟩ : ByteArray), false)) = some (r1, r2) := by rw [if_neg (show ¬ (false = true) by decide)] at H; exact H
       clear H
       have H := H1
       clear H1
       simp only [Option.some.injEq, Prod.mk.injEq] at H
       obtain ⟨rfl, rfl⟩ := H
       go_wp2_with (first | ((with_reducible refine gate_callee (f := 106) rfl ?_); refine goesL_ (some 22) rfl rfl Try.func106 Z0 rfl #[.string x4_1] rfl Z10 ?_; (with_reducible refine (impl_NameOk.calls k1 x4_1 true _ A9.out).mono ?_); rintro e w' ⟨rfl, ⟨nd, rfl⟩⟩; refine ⟨_, rfl, ?_⟩) | (go_at_call 78; (with_reducible refine (impl_Pack.calls k1 x4_1 t465 _ A11.out).mono ?_); rintro e w16 ⟨v466, rfl, ho0, hb⟩; have HO467 := Z (Kd.R_lower ho0 (below_size Z63)); replace HB := Z (below_step Z63 hb); (try clear hb); (try clear hb2); (try clear hk); (try clear hi); (try clear ho0); obtain ⟨Ao17, co17, eo17⟩ := Kd.R_slice HO467.out; subst eo17) | (go_at_call 90; (with_reducible refine (slices_Equal_uint32_uint32.calls k1 _ _ t465 _ _ l0 false _ ?side1 ?side2 ?side3 ?side4 A12.out).mono ?_); (case side1 => exact (Z17 HO467)); (case side2 => exact (Kd.R_reads' HO467.out).2.1); (case side3 => exact (Z30 HR0)); (case side4 => exact HC0.out); rintro e w' ⟨rfl, ⟨nd, rfl⟩⟩))
       go_ret2
       exact ⟨Z9, Z63⟩
     ·replace c10 := Bool.eq_false_iff.mpr c10
      subst c10
      have H1 : (some ((⟨#[]⟩ : ByteArray), false)) = some (r1, r2) := by rw [if_neg (show ¬ (false = true) by decide)] at H; exact H
      clear H
      have H := H1
      clear H1
      simp only [Option.some.injEq, Prod.mk.injEq] at H
      obtain ⟨rfl, rfl⟩ := H
      go_wp2_with (first | ((with_reducible refine gate_callee (f := 106) rfl ?_); refine goesL_ (some 22) rfl rfl Try.func106 Z0 rfl #[.string x4_1] rfl Z10 ?_; (with_reducible refine (impl_NameOk.calls k1 x4_1 false _ A9.out).mono ?_); rintro e w' ⟨rfl, ⟨nd, rfl⟩⟩; refine ⟨_, rfl, ?_⟩))
      go_ret2
      exact ⟨Z9, Z63⟩

/-! ### impl_nameKind: function 89 -/
def impl_nameKind.l0 : Nat → Int → Int → Option (Int)
 | 0, _, _ => none
 | k + 1, x0, x3 => if x3 ≤ 6 then ((impl_nameTag.f x3).bind fun t469 => (if t469 = x0 then (some x3) else (impl_nameKind.l0 k x0 (wrap64 (x3 + 1))))) else (some 0)
def impl_nameKind.f (k : Nat) (a0 : Int) : Option (Int) := impl_nameKind.l0 k a0 1
theorem impl_nameKind.mono_l : ∀ k, (∀ y0 y1, LeO (impl_nameKind.l0 k y0 y1) (impl_nameKind.l0 (k + 1) y0 y1))
 | 0 => fun _ _ r h => by simp [impl_nameKind.l0] at h
 | k + 1 => by
  have ih0 := impl_nameKind.mono_l k
  ·intro y0 y1
   unfold impl_nameKind.l0
   repeat' first
   | (with_reducible exact ih0 _ _)
   | (with_reducible exact LeO.refl _)
   | (with_reducible exact LeO.none _)
   | (with_reducible refine LeO.ite ?_ ?_)
   | (with_reducible refine LeO.bind ?_ (fun _ => ?_))
   | exact ih0 _ _
   | exact LeO.none _
   | refine LeO.ite ?_ ?_
   | refine LeO.bind ?_ (fun _ => ?_)
theorem impl_nameKind.mono : ∀ a0 k, LeO (impl_nameKind.f k a0) (impl_nameKind.f (k + 1) a0) := by
 intro a0 k
 have ih0 := impl_nameKind.mono_l k
 unfold impl_nameKind.f
 repeat' first
   | (with_reducible exact ih0 _ _)
   | (with_reducible exact LeO.refl _)
   | (with_reducible exact LeO.none _)
   | (with_reducible refine LeO.ite ?_ ?_)
   | (with_reducible refine LeO.bind ?_ (fun _ => ?_))
   | exact ih0 _ _
   | exact LeO.none _
   | refine LeO.ite ?_ ?_
   | refine LeO.bind ?_ (fun _ => ?_)
set_option maxHeartbeats 8000000 in
set_option maxRecDepth 100000 in
theorem impl_nameKind.calls (k : Nat) (a0 : Int) (r : Int) (w : World) (h : impl_nameKind.f k a0 = some r) :
  Calls Try.prog 89 #[.int .u32 a0] w fun e w' => e = .returned (.int .i64 r) ∧ Drawn0 w w' := by
 have H : (impl_nameKind.l0 k a0 1) = some r := h
 clear h
 have H' := Aside0.mk H
 clear H
 go_enter Try.func89, Try.ntmps89
 go_wp2
 go_loopg [3] k (fun kq v3 w' => ∃ (x3_1 : Int), v3 = .int .i64 x3_1 ∧ Aside0 (impl_nameKind.l0 kq a0 x3_1 = some r) ∧ Aside0 (kq ≤ k) ∧ Drawn0 w w')
 case atStart => exact ⟨(1), Z2, H', ⟨Nat.le_refl _⟩, Z3⟩
 case round =>
  clear H'
  obtain ⟨x3_1, rfl, HA, HK1, ⟨m1, rfl⟩⟩ := hrel
  cases gk with
  | zero => exact absurd HA.out (by simp [impl_nameKind.l0])
  | succ k1 =>
   have H := HA.out
   clear HA
   simp only [impl_nameKind.l0] at H
   by_cases c2 : x3_1 ≤ 6
   ·rw [if_pos c2] at H
    have c2b0 : decide (x3_1 ≤ 6) = true := decide_eq_true c2
    clear c2
    replace H := Option.bind_eq_some_iff.mp H
    obtain ⟨t469, A30, H⟩ := H
    replace H : (if t469 = a0 then (some x3_1) else (impl_nameKind.l0 k1 a0 (wrap64 (x3_1 + 1)))) = some r := H
    have A3 := Aside0.mk A30
    clear A30
    by_cases c4 : t469 = a0
    ·rw [if_pos c4] at H
     have c4b0 : (t469 == a0) = true := beq_iff_eq.mpr c4
     have c4b1 : (t469 != a0) = false := bne_eq_false_iff_eq.mpr c4
     clear c4
     obtain rfl := Option.some.inj H
     go_wp2_with (first | ((with_reducible refine gate_callee (f := 70) rfl ?_); refine goesL_ (some 9) rfl rfl Try.func70 Z0 rfl #[.int .i64 x3_1] rfl Z10 ?_; (with_reducible refine (impl_nameTag.calls x3_1 t469 _ A3.out).mono ?_); rintro e w' ⟨rfl, ⟨nd, rfl⟩⟩; refine ⟨_, rfl, ?_⟩))
     go_ret
     exact ⟨Z2, Z3⟩
    ·rw [if_neg c4] at H
     have c4b0 : (t469 == a0) = false := beq_eq_false_iff_ne.mpr c4
     have c4b1 : (t469 != a0) = true := bne_iff_ne.mpr c4
     have H' := Aside0.mk H
     clear H
     go_wp2_with (first | ((with_reducible refine gate_callee (f := 70) rfl ?_); refine goesL_ (some 9) rfl rfl Try.func70 Z0 rfl #[.int .i64 x3_1] rfl Z10 ?_; (with_reducible refine (impl_nameTag.calls x3_1 t469 _ A3.out).mono ?_); rintro e w' ⟨rfl, ⟨nd, rfl⟩⟩; refine ⟨_, rfl, ?_⟩))
     go_roundg k1
     case measure => have := HK1.out; omega
     case rel => exact ⟨(wrap64 (x3_1 + 1)), Z2, H', ⟨Z6⟩, Z3⟩
   ·rw [if_neg c2] at H
    have c2b0 : decide (x3_1 ≤ 6) = false := decide_eq_false c2
    clear c2
    obtain rfl := Option.some.inj H
    go_wp2
    go_ret
    exact ⟨Z2, Z3⟩

/-! ### impl_FieldOk: function 91 -/
def impl_FieldOk.f (k : Nat) (a0 : Int) : Option (Bool) := (impl_UnpackOne.f k a0).bind fun t470 => ((impl_Pack.f k t470).bind fun t471 => ((slices_Equal_uint32_uint32.f k t471 (([a0] : List Int))).bind fun t477 => (some t477)))
theorem impl_FieldOk.mono : ∀ a0 k, LeO (impl_FieldOk.f k a0) (impl_FieldOk.f (k + 1) a0) := by
 intro a0 k
 unfold impl_FieldOk.f
 repeat' first
   | (with_reducible exact impl_Pack.mono _ _)
   | (with_reducible exact impl_UnpackOne.mono _ _)
   | (with_reducible exact slices_Equal_uint32_uint32.mono _ _ _)
   | (with_reducible exact LeO.refl _)
   | (with_reducible exact LeO.none _)
   | (with_reducible refine LeO.ite ?_ ?_)
   | (with_reducible refine LeO.bind ?_ (fun _ => ?_))
   | exact impl_Pack.mono _ _
   | exact impl_UnpackOne.mono _ _
   | exact slices_Equal_uint32_uint32.mono _ _ _
   | exact LeO.none _
   | refine LeO.ite ?_ ?_
   | refine LeO.bind ?_ (fun _ => ?_)
set_option maxHeartbeats 8000000 in
set_option maxRecDepth 100000 in
theorem impl_FieldOk.calls (k : Nat) (a0 : Int) (r : Bool) (w : World) (h : impl_FieldOk.f k a0 = some r) :
  Calls Try.prog 91 #[.int .u32 a0] w fun e w' => e = .returned (.bool r) ∧ Below w.heap.size w w' := by
 have HB := Z (Below.refl w.heap.size w)
 have H : ((impl_UnpackOne.f k a0).bind fun t470 => ((impl_Pack.f k t470).bind fun t471 => ((slices_Equal_uint32_uint32.f k t471 (([a0] : List Int))).bind fun t477 => (some t477)))) = some r := h
 clear h
 replace H := Option.bind_eq_some_iff.mp H
 obtain ⟨t470, A20, H⟩ := H
 replace H : ((impl_Pack.f k t470).bind fun t471 => ((slices_Equal_uint32_uint32.f k t471 (([a0] : List Int))).bind fun t477 => (some t477))) = some r := H
 have A2 := Aside0.mk A20
 clear A20
 replace H := Option.bind_eq_some_iff.mp H
 obtain ⟨t471, A30, H⟩ := H
 replace H : ((slices_Equal_uint32_uint32.f k t471 (([a0] : List Int))).bind fun t477 => (some t477)) = some r := H
 have A3 := Aside0.mk A30
 clear A30
 obtain ⟨y474, hy474⟩ : ∃ y_ : List Int, y_ = (([a0] : List Int)) := ⟨_, rfl⟩
 replace H : ((slices_Equal_uint32_uint32.f k t471 y474).bind fun t477 => (some t477)) = some r := by first | (rw [hy474]; with_reducible exact H) | (have H2_ := (Option.bind_some _ _).symm.trans H; rw [hy474]; with_reducible exact H2_) | (have H2_ := (Option.bind_some _ _).symm.trans H; with_reducible exact H2_) | with_reducible exact H | (rw [hy474]; exact H) | exact H
 have Ny474 := Aside0.mk hy474
 clear hy474
 replace H := Option.bind_eq_some_iff.mp H
 obtain ⟨t477, A40, H⟩ := H
 replace H : (some t477) = some r := H
 have A4 := Aside0.mk A40
 clear A40
 obtain rfl := Option.some.inj H
 go_enter Try.func91, Try.ntmps91
 go_wp2_with (first | ((with_reducible refine gate_callee (f := 92) rfl ?_); refine goesL_ (some 4) rfl rfl Try.func92 Z0 rfl #[.int .u32 a0] rfl Z10 ?_; (with_reducible refine (impl_UnpackOne.calls k a0 t470 _ A2.out).mono ?_); rintro e w5 ⟨rfl, hb⟩; refine ⟨_, rfl, ?_⟩; replace HB := Z (below_step Z63 hb); (try clear hb); (try clear hb2); (try clear hk); (try clear hi)) | ((with_reducible refine gate_callee (f := 78) rfl ?_); refine goesL_ (some 5) rfl rfl Try.func78 Z0 rfl #[.string t470] rfl Z10 ?_; (with_reducible refine (impl_Pack.calls k t470 t471 _ A3.out).mono ?_); rintro e w6 ⟨v472, rfl, ho0, hb⟩; refine ⟨_, rfl, ?_⟩; have HO473 := Z (Kd.R_lower ho0 (below_size Z63)); replace HB := Z (below_step Z63 hb); (try clear hb); (try clear hb2); (try clear hk); (try clear hi); (try clear ho0)) | ((with_reducible refine gate_dst (N := 7) rfl ?_); refine Kd.R_lit (Kd.int .u32) _ 47 (by rfl) (N := 7) (by rfl) (xs := ([a0] : List Int)) (inner := [.int .u32 a0]) (ok := fun _ => True) (okp := fun _ => True) Z7 (Reps.one (show Kd.M (Kd.int .u32) _ _ _ a0 [.int .u32 a0] from rfl) (Reps.none _ _)) (fun _ hk => hk) trivial (Below.refl _ _) (Nat.le_refl _) (by simp) ?_; intro v475 w7 ho8 hb hg_ hnew_; clear hg_ hnew_; (first | rw [← Ny474.out] at ho8 | (simp only [Int.reduceToNat] at ho8; rw [← Ny474.out] at ho8)); have HO476 := Z (Kd.R_lower (Kd.R_new' ho8 (Kd.R_lt (Z12 HO473))) (below_size Z63)); replace HO473 := Z (Kd.R_elder' (Z12 HO473) (Kd.R_base ho8) hb); replace HB := Z (below_step Z63 hb); clear hb ho8; obtain ⟨Ao9, co9, eo9⟩ := Kd.R_slice HO473.out; subst eo9; obtain ⟨Ao10, co10, eo10⟩ := Kd.R_slice HO476.out; subst eo10) | ((with_reducible refine gate_callee (f := 90) rfl ?_); refine goesL_ (some 8) rfl rfl Try.func90 Z0 rfl #[.slice Ao9 t471.length co9, .slice Ao10 y474.length co10] rfl Z10 ?_; (with_reducible refine (slices_Equal_uint32_uint32.calls k _ _ t471 _ _ y474 t477 _ ?side1 ?side2 ?side3 ?side4 A4.out).mono ?_); (case side1 => exact (Z17 HO473)); (case side2 => exact (Kd.R_reads' HO473.out).2.1); (case side3 => exact (Z17 HO476)); (case side4 => exact (Kd.R_reads' HO476.out).2.1); rintro e w' ⟨rfl, ⟨nd, rfl⟩⟩; refine ⟨_, rfl, ?_⟩))
 go_ret
 exact ⟨Z9, Z63⟩

end Go.Proofs.Ytkkiibjnpkjijaa.QFnCells
