/-
Plain functions for the Go functions that a law reaches, each with a proof that the translation's call comes to just that; no conditions beyond those written in each.
-/
import Derived.Test.YtkkiibjnpkjijaaSFnBlocks
namespace Go.Proofs.Ytkkiibjnpkjijaa.QFnBlocks
open Go.RowKit Go.Proofs.YtkkiibjnpkjijaaW.PrintWords Go.Proofs.YtkkiibjnpkjijaaW.PrintLast Go.Proofs.YtkkiibjnpkjijaaW.PrintMore
attribute [local go_sem] max2_int min2_int max_two min_two max_three min_three max_four min_four   -- for this text's walks alone
set_option linter.unusedVariables false
set_option linter.unusedSimpArgs false

/-! ### laws_big: function 13 -/
def laws_big.f (l0 : List Int) : Option (Bool) := some (decide ((l0.length : Int) > 1048576))
set_option maxHeartbeats 8000000 in
set_option maxRecDepth 100000 in
theorem laws_big.calls (A0 : Option Addr) (c0 : Nat) (l0 : List Int) (r : Bool) (w : World) (hr0 : Kd.C (Kd.int .u8) w A0 l0.length l0) (hc0 : l0.length ≤ c0) (h : laws_big.f l0 = some r) :
  Calls Try.prog 13 #[.slice A0 l0.length c0] w fun e w' => e = .returned (.bool r) ∧ Drawn0 w w' := by
 have HR0 := Aside0.mk hr0
 have HC0 := Aside0.mk hc0
 clear hr0 hc0
 have H : (some (decide ((l0.length : Int) > 1048576))) = some r := h
 clear h
 obtain rfl := Option.some.inj H
 go_enter Try.func13, Try.ntmps13
 go_wp2
 go_ret
 exact ⟨Z0, Z1⟩

/-! ### laws_sameCells: function 18 -/
def laws_sameCells.l0 : Nat → List Int → List Int → Int → Option (Bool)
 | 0, _, _, _ => none
 | k + 1, x0, x1, x5 => if x5 < (x0.length : Int) then (if 0 ≤ x5 then (if x5 < (x1.length : Int) then (if (rd x0 x5) = (rd x1 x5) then (laws_sameCells.l0 k x0 x1 (wrap64 (x5 + 1))) else (some false)) else (none)) else (none)) else (some true)
def laws_sameCells.f (k : Nat) (l0 : List Int) (l1 : List Int) : Option (Bool) := if (l0.length : Int) = (l1.length : Int) then (laws_sameCells.l0 k l0 l1 0) else (some false)
theorem laws_sameCells.mono_l : ∀ k, (∀ y0 y1 y2, LeO (laws_sameCells.l0 k y0 y1 y2) (laws_sameCells.l0 (k + 1) y0 y1 y2))
 | 0 => fun _ _ _ r h => by simp [laws_sameCells.l0] at h
 | k + 1 => by
  have ih0 := laws_sameCells.mono_l k
  ·intro y0 y1 y2
   unfold laws_sameCells.l0
   repeat' first
   | (with_reducible exact ih0 _ _ _)
   | (with_reducible exact LeO.refl _)
   | (with_reducible exact LeO.none _)
   | (with_reducible refine LeO.ite ?_ ?_)
   | (with_reducible refine LeO.bind ?_ (fun _ => ?_))
   | exact ih0 _ _ _
   | exact LeO.none _
   | refine LeO.ite ?_ ?_
   | refine LeO.bind ?_ (fun _ => ?_)
theorem laws_sameCells.mono : ∀ a0 a1 k, LeO (laws_sameCells.f k a0 a1) (laws_sameCells.f (k + 1) a0 a1) := by
 intro a0 a1 k
 have ih0 := laws_sameCells.mono_l k
 unfold laws_sameCells.f
 repeat' first
   | (with_reducible exact ih0 _ _ _)
   | (with_reducible exact LeO.refl _)
   | (with_reducible exact LeO.none _)
   | (with_reducible refine LeO.ite ?_ ?_)
   | (with_reducible refine LeO.bind ?_ (fun _ => ?_))
   | exact ih0 _ _ _
   | exact LeO.none _
   | refine LeO.ite ?_ ?_
   | refine LeO.bind ?_ (fun _ => ?_)
set_option maxHeartbeats 8000000 in
set_option maxRecDepth 100000 in
theorem laws_sameCells.calls (k : Nat) (A0 : Option Addr) (c0 : Nat) (l0 : List Int) (A1 : Option Addr) (c1 : Nat) (l1 : List Int) (r : Bool) (w : World) (hr0 : Kd.C (Kd.int .u32) w A0 l0.length l0) (hc0 : l0.length ≤ c0) (hr1 : Kd.C (Kd.int .u32) w A1 l1.length l1) (hc1 : l1.length ≤ c1) (h : laws_sameCells.f k l0 l1 = some r) :
  Calls Try.prog 18 #[.slice A0 l0.length c0, .slice A1 l1.length c1] w fun e w' => e = .returned (.bool r) ∧ Drawn0 w w' := by
 have HR0 := Aside0.mk hr0
 have HC0 := Aside0.mk hc0
 clear hr0 hc0
 have HR1 := Aside0.mk hr1
 have HC1 := Aside0.mk hc1
 clear hr1 hc1
 have H : (if (l0.length : Int) = (l1.length : Int) then (laws_sameCells.l0 k l0 l1 0) else (some false)) = some r := h
 clear h
 by_cases c3 : (l0.length : Int) = (l1.length : Int)
 ·rw [if_pos c3] at H
  have c3b0 : ((l0.length : Int) == (l1.length : Int)) = true := beq_iff_eq.mpr c3
  have c3b1 : ((l0.length : Int) != (l1.length : Int)) = false := bne_eq_false_iff_eq.mpr c3
  have c3b2 : (l0.length == l1.length) = true := by first | simpa using c3 | (simp at c3 ⊢; omega)
  clear c3
  have H' := Aside0.mk H
  clear H
  go_enter Try.func18, Try.ntmps18
  go_wp2
  repeat (go_quiet (fail); try go_wp2)
  go_loopg [5] k (fun kq v5 w' => ∃ (x5_1 : Int), v5 = .int .i64 x5_1 ∧ Aside0 (laws_sameCells.l0 kq l0 l1 x5_1 = some r) ∧ Aside0 (kq ≤ k) ∧ Drawn0 w w')
  case atStart => exact ⟨(0), Z0, H', ⟨Nat.le_refl _⟩, Z1⟩
  case round =>
   clear H'
   try clear c1
   try clear p2
   try clear c3
   try clear c3b0
   try clear c3b1
   try clear c3b2
   obtain ⟨x5_1, rfl, HA, HK1, ⟨m1, rfl⟩⟩ := hrel
   cases gk with
   | zero => exact absurd HA.out (by simp [laws_sameCells.l0])
   | succ k1 =>
    have H := HA.out
    clear HA
    simp only [laws_sameCells.l0] at H
    by_cases c4 : x5_1 < (l0.length : Int)
    ·rw [if_pos c4] at H
     have c4b0 : decide (x5_1 < (l0.length : Int)) = true := decide_eq_true c4
     clear c4
     by_cases c5 : 0 ≤ x5_1
     ·rw [if_pos c5] at H
      have c5b0 : decide (0 ≤ x5_1) = true := decide_eq_true c5
      clear c5
      by_cases c6 : x5_1 < (l1.length : Int)
      ·rw [if_pos c6] at H
       have c6b0 : decide (x5_1 < (l1.length : Int)) = true := decide_eq_true c6
       clear c6
       by_cases c7 : (rd l0 x5_1) = (rd l1 x5_1)
       ·rw [if_pos c7] at H
        have c7b0 : ((rd l0 x5_1) == (rd l1 x5_1)) = true := beq_iff_eq.mpr c7
        have c7b1 : ((rd l0 x5_1) != (rd l1 x5_1)) = false := bne_eq_false_iff_eq.mpr c7
        clear c7
        have H' := Aside0.mk H
        clear H
        have p101 : 0 ≤ (x5_1 : Int) := of_decide_eq_true Z2
        have q101 : x5_1 < (l0.length : Int) := of_decide_eq_true Z2
        obtain ⟨ad101, e101, hx101_0⟩ := Kd.at_int HR0.out x5_1 p101 q101
        cases e101
        replace p101 := eq_true p101
        replace q101 := eq_true q101
        have p102 : 0 ≤ (x5_1 : Int) := of_decide_eq_true Z2
        have q102 : x5_1 < (l1.length : Int) := of_decide_eq_true Z2
        obtain ⟨ad102, e102, hx102_0⟩ := Kd.at_int HR1.out x5_1 p102 q102
        cases e102
        replace p102 := eq_true p102
        replace q102 := eq_true q102
        go_wp2
        repeat (go_quiet (fail); try go_wp2)
        go_roundg k1
        case measure => have := HK1.out; omega
        case rel => exact ⟨(wrap64 (x5_1 + 1)), Z0, H', ⟨Z3⟩, Z1⟩
       ·rw [if_neg c7] at H
        have c7b0 : ((rd l0 x5_1) == (rd l1 x5_1)) = false := beq_eq_false_iff_ne.mpr c7
        have c7b1 : ((rd l0 x5_1) != (rd l1 x5_1)) = true := bne_iff_ne.mpr c7
        obtain rfl := Option.some.inj H
        have p101 : 0 ≤ (x5_1 : Int) := of_decide_eq_true Z2
        have q101 : x5_1 < (l0.length : Int) := of_decide_eq_true Z2
        obtain ⟨ad101, e101, hx101_0⟩ := Kd.at_int HR0.out x5_1 p101 q101
        cases e101
        replace p101 := eq_true p101
        replace q101 := eq_true q101
        have p102 : 0 ≤ (x5_1 : Int) := of_decide_eq_true Z2
        have q102 : x5_1 < (l1.length : Int) := of_decide_eq_true Z2
        obtain ⟨ad102, e102, hx102_0⟩ := Kd.at_int HR1.out x5_1 p102 q102
        cases e102
        replace p102 := eq_true p102
        replace q102 := eq_true q102
        go_wp2
        repeat (go_quiet (fail); try go_wp2)
        go_ret
        exact ⟨Z0, Z1⟩
      ·rw [if_neg c6] at H
       exact absurd H (by simp)
     ·rw [if_neg c5] at H
      exact absurd H (by simp)
    ·rw [if_neg c4] at H
     have c4b0 : decide (x5_1 < (l0.length : Int)) = false := decide_eq_false c4
     clear c4
     obtain rfl := Option.some.inj H
     go_wp2
     repeat (go_quiet (fail); try go_wp2)
     go_ret
     exact ⟨Z0, Z1⟩
 ·rw [if_neg c3] at H
  have c3b0 : ((l0.length : Int) == (l1.length : Int)) = false := beq_eq_false_iff_ne.mpr c3
  have c3b1 : ((l0.length : Int) != (l1.length : Int)) = true := bne_iff_ne.mpr c3
  have c3b2 : (l0.length == l1.length) = false := by first | simpa using c3 | (simp at c3 ⊢; omega)
  obtain rfl := Option.some.inj H
  go_enter Try.func18, Try.ntmps18
  go_wp2
  repeat (go_quiet (fail); try go_wp2)
  go_ret
  exact ⟨Z0, Z1⟩

/-! ### laws_padded: function 19 -/
def laws_padded.l0 : Nat → List Int → Option (List Int)
 | 0, _ => none
 | k + 1, x3 => if (x3.length : Int) < 64 then (if x3.length < 35184372088832 then (laws_padded.l0 k (x3 ++ [0])) else (none)) else (some x3)
def laws_padded.f (k : Nat) (l0 : List Int) : Option (List Int) := (some (([] : List Int) : List Int)).bind fun y103 => (if y103.length + l0.length < 35184372088832 then (laws_padded.l0 k (y103 ++ l0)) else (none))
theorem laws_padded.mono_l : ∀ k, (∀ y0, LeO (laws_padded.l0 k y0) (laws_padded.l0 (k + 1) y0))
 | 0 => fun _ r h => by simp [laws_padded.l0] at h
 | k + 1 => by
  have ih0 := laws_padded.mono_l k
  ·intro y0
   unfold laws_padded.l0
   repeat' first
   | (with_reducible exact ih0 _)
   | (with_reducible exact LeO.refl _)
   | (with_reducible exact LeO.none _)
   | (with_reducible refine LeO.ite ?_ ?_)
   | (with_reducible refine LeO.bind ?_ (fun _ => ?_))
   | exact ih0 _
   | exact LeO.none _
   | refine LeO.ite ?_ ?_
   | refine LeO.bind ?_ (fun _ => ?_)
theorem laws_padded.mono : ∀ a0 k, LeO (laws_padded.f k a0) (laws_padded.f (k + 1) a0) := by
 intro a0 k
 have ih0 := laws_padded.mono_l k
 unfold laws_padded.f
 repeat' first
   | (with_reducible exact ih0 _)
   | (with_reducible exact LeO.refl _)
   | (with_reducible exact LeO.none _)
   | (with_reducible refine LeO.ite ?_ ?_)
   | (with_reducible refine LeO.bind ?_ (fun _ => ?_))
   | exact ih0 _
   | exact LeO.none _
   | refine LeO.ite ?_ ?_
   | refine LeO.bind ?_ (fun _ => ?_)
set_option maxHeartbeats 8000000 in
set_option maxRecDepth 100000 in
theorem laws_padded.calls (k : Nat) (A0 : Option Addr) (c0 : Nat) (l0 : List Int) (r : List Int) (w : World) (hr0 : Kd.C (Kd.int .u32) w A0 l0.length l0) (hc0 : l0.length ≤ c0) (h : laws_padded.f k l0 = some r) :
  Calls Try.prog 19 #[.slice A0 l0.length c0] w fun e w' => ∃ v0_ : Value, e = .returned (v0_) ∧ Kd.R (Kd.int .u32) 47 w' w.heap.size (fun _ => True) v0_ r ∧ Below w.heap.size w w' := by
 have HR0 := Aside0.mk hr0
 have HC0 := Aside0.mk hc0
 clear hr0 hc0
 have HB := Z (Below.refl w.heap.size w)
 have H : ((some (([] : List Int) : List Int)).bind fun y103 => (if y103.length + l0.length < 35184372088832 then (laws_padded.l0 k (y103 ++ l0)) else (none))) = some r := h
 clear h
 obtain ⟨y103, hy103⟩ : ∃ y_ : List Int, y_ = (([] : List Int)) := ⟨_, rfl⟩
 replace H : (if y103.length + l0.length < 35184372088832 then (laws_padded.l0 k (y103 ++ l0)) else (none)) = some r := by first | (rw [hy103]; with_reducible exact H) | (have H2_ := (Option.bind_some _ _).symm.trans H; rw [hy103]; with_reducible exact H2_) | (have H2_ := (Option.bind_some _ _).symm.trans H; with_reducible exact H2_) | with_reducible exact H | (rw [hy103]; exact H) | exact H
 have Ny103 := Aside0.mk hy103
 clear hy103
 by_cases c2 : y103.length + l0.length < 35184372088832
 ·rw [if_pos c2] at H
  have LMc2 := Aside0.mk c2
  clear c2
  obtain ⟨y106, hy106⟩ : ∃ y_ : List Int, y_ = (y103 ++ l0) := ⟨_, rfl⟩
  replace H : (laws_padded.l0 k y106) = some r := by first | (rw [hy106]; with_reducible exact H) | (have H2_ := (Option.bind_some _ _).symm.trans H; rw [hy106]; with_reducible exact H2_) | (have H2_ := (Option.bind_some _ _).symm.trans H; with_reducible exact H2_) | with_reducible exact H | (rw [hy106]; exact H) | exact H
  have Ny106 := Aside0.mk hy106
  clear hy106
  have H' := Aside0.mk H
  clear H
  go_enter Try.func19, Try.ntmps19
  go_wp2_with (first | ((with_reducible refine gate_dst (N := 4) rfl ?_); refine Kd.R_lit (Kd.int .u32) _ 47 (by rfl) (N := 4) (by rfl) (xs := ([] : List Int)) (inner := []) (ok := fun _ => True) (okp := fun _ => True) Z4 (Reps.none _ _) (fun _ hk => hk) trivial (Below.refl _ _) (Nat.le_refl _) (by simp) ?_; intro v104 w3 ho4 hb hg_ hnew_; clear hg_ hnew_; (first | rw [← Ny103.out] at ho4 | (simp only [Int.reduceToNat] at ho4; rw [← Ny103.out] at ho4)); have HO105 := Z (Kd.R_lower ho4 (below_size Z33)); replace HB := Z (below_step Z33 hb); clear hb ho4) | ((with_reducible refine gate_builtin (b := .append) (xs := #[.tmp 4, .tmp 5]) rfl ?_); at_builtin; refine Kd.R_append_rows (Kd.int .u32) (w0 := w) w.heap.size rfl (.tmp 4) (.tmp 5) 24 47 (.int .u32 0) 4 rfl Try.underlying24 info47 rfl (by decide) (by omega) v104 y103 l0 _ _ _ (fun _ => True) (fun _ => False) rfl rfl ?aO ?aR (fun _ _ h => h) (fun _ h => h.elim) ?aF ?aB ?aS ?aL ?_; (case aR => exact (Z6 HR0)); (case aB => exact Z33); (case aF => exact (fun _ _ => trivial)); (case aO => exact (Z7 HO105)); (case aS => exact (below_size Z33)); (case aL => have := LMc2.out; omega); intro v107 w5 ho hb hg hat; rw [← Ny106.out] at ho; replace HB := Z (hb); have HO108 := Z (ho); clear HO105; clear ho hb hg hat))
  go_loopg [3] k (fun kq v3 w' => ∃ (x3_1 : List Int), Aside0 (laws_padded.l0 kq x3_1 = some r) ∧ Aside0 (kq ≤ k) ∧ Aside0 (Kd.R (Kd.int .u32) 47 w' w.heap.size (fun _ => True) v3 x3_1) ∧ Aside0 (Below w.heap.size w w'))
  case atStart => exact ⟨(y106), H', ⟨Nat.le_refl _⟩, ⟨(Z7 HO108)⟩, ⟨Z33⟩⟩
  case round =>
   clear H'
   try clear c1
   try clear c2
   try clear p2
   obtain ⟨x3_1, HA, HK1, HO_3, HB⟩ := hrel
   cases gk with
   | zero => exact absurd HA.out (by simp [laws_padded.l0])
   | succ k1 =>
    have H := HA.out
    clear HA
    simp only [laws_padded.l0] at H
    by_cases c6 : (x3_1.length : Int) < 64
    ·rw [if_pos c6] at H
     have c6b0 : decide ((x3_1.length : Int) < 64) = true := decide_eq_true c6
     have c6b1 : decide (x3_1.length < 64) = true := decide_eq_true (by omega)
     clear c6
     by_cases c7 : x3_1.length < 35184372088832
     ·rw [if_pos c7] at H
      have LMc7 := Aside0.mk c7
      clear c7
      obtain ⟨y109, hy109⟩ : ∃ y_ : List Int, y_ = (x3_1 ++ [0]) := ⟨_, rfl⟩
      replace H : (laws_padded.l0 k1 y109) = some r := by first | (rw [hy109]; with_reducible exact H) | (have H2_ := (Option.bind_some _ _).symm.trans H; rw [hy109]; with_reducible exact H2_) | (have H2_ := (Option.bind_some _ _).symm.trans H; with_reducible exact H2_) | with_reducible exact H | (rw [hy109]; exact H) | exact H
      have Ny109 := Aside0.mk hy109
      clear hy109
      have H' := Aside0.mk H
      clear H
      obtain ⟨Ao8, co8, eo8⟩ := Kd.R_slice HO_3.out
      subst eo8
      go_wp2_with (first | ((with_reducible refine gate_builtin (b := .append) (xs := #[.tmp 10, .tmp 11]) rfl ?_); at_builtin; refine Kd.R_append (Kd.int .u32) (w0 := w) w.heap.size rfl (.tmp 10) (.tmp 11) 24 47 (.int .u32 0) 4 rfl Try.underlying24 info47 rfl (by decide) (by omega) (.slice Ao8 x3_1.length co8) x3_1 0 [.int .u32 0] (fun _ => True) (fun _ => False) rfl rfl ?aP (fun _ hk => hk.elim) ?aF ?aO ?aB ?aS ?aL ?_; (case aP => exact rfl); (case aB => exact Z33); (case aF => exact (fun _ _ => trivial)); (case aO => exact (Z7 HO_3)); (case aS => exact (below_size Z33)); (case aL => have := LMc7.out; omega); intro v110 w9 ho hb hg hat; rw [← Ny109.out] at ho; replace HB := Z (hb); have HO111 := Z (ho); clear HO_3; clear ho hb hg hat))
      go_roundg k1
      case measure => have := HK1.out; omega
      case rel => exact ⟨(y109), H', ⟨Z3⟩, ⟨(Z7 HO111)⟩, ⟨Z33⟩⟩
     ·rw [if_neg c7] at H
      exact absurd H (by simp)
    ·rw [if_neg c6] at H
     have c6b0 : decide ((x3_1.length : Int) < 64) = false := decide_eq_false c6
     have c6b1 : decide (x3_1.length < 64) = false := decide_eq_false (by omega)
     clear c6
     obtain rfl := Option.some.inj H
     obtain ⟨Ao10, co10, eo10⟩ := Kd.R_slice HO_3.out
     subst eo10
     go_wp2
     go_ret
     exact ⟨_, Z8, (Z7 HO_3), Z33⟩
 ·rw [if_neg c2] at H
  exact absurd H (by simp)

/-! ### impl_StoreOk: function 100 -/
def impl_StoreOk.f (l0_0 : List Int) : Option (Bool) := if ((l0_0.length : Int) % 64) = 0 then (some (decide ((l0_0.length : Int) ≤ 768))) else (some false)
set_option maxHeartbeats 8000000 in
set_option maxRecDepth 100000 in
theorem impl_StoreOk.calls (A0_0 : Option Addr) (c0_0 : Nat) (l0_0 : List Int) (r : Bool) (w : World) (hr0_0 : Kd.C (Kd.int .u32) w A0_0 l0_0.length l0_0) (hc0_0 : l0_0.length ≤ c0_0) (h : impl_StoreOk.f l0_0 = some r) :
  Calls Try.prog 100 #[.agg #[.slice A0_0 l0_0.length c0_0]] w fun e w' => e = .returned (.bool r) ∧ Below w.heap.size w w' := by
 have hu34 := Try.underlying34
 have HR0_0 := Aside0.mk hr0_0
 have HC0_0 := Aside0.mk hc0_0
 clear hr0_0 hc0_0
 have HB := Z (Below.refl w.heap.size w)
 have H : (if ((l0_0.length : Int) % 64) = 0 then (some (decide ((l0_0.length : Int) ≤ 768))) else (some false)) = some r := h
 clear h
 by_cases c2 : ((l0_0.length : Int) % 64) = 0
 ·rw [if_pos c2] at H
  have c2b0 : (((l0_0.length : Int) % 64) == 0) = true := beq_iff_eq.mpr c2
  have c2b1 : (((l0_0.length : Int) % 64) != 0) = false := bne_eq_false_iff_eq.mpr c2
  clear c2
  obtain rfl := Option.some.inj H
  go_enter Try.func100, Try.ntmps100
  go_wp2_with (first | ((with_reducible refine gate_dst (N := 1) rfl ?_); (try (refine gate_guard (by rfl) ?_; dsimp only)); refine box_event (by rfl) (N := 1) (by rfl) (cs := #[.slice A0_0 l0_0.length c0_0]) (t := 34) Z4 ?_; intro gb112 hg w3 hbox hb; have BK112 := Z (hbox); have GW112 := Z ((Z54 : w.heap.size ≤ gb112)); have GE112 := Z ((Z54 : w.heap.size ≤ gb112)); replace HB := Z (below_step Z33 hb); clear hb hbox hg; have hcz4_0 : w3.cell? ⟨gb112, 0, none⟩ = some (.slice A0_0 l0_0.length c0_0) := (blk_cell BK112.out 0).trans rfl; have hfz4_0 := blk_frozen BK112.out 0))
  go_ret
  exact ⟨Z8, Z33⟩
 ·rw [if_neg c2] at H
  have c2b0 : (((l0_0.length : Int) % 64) == 0) = false := beq_eq_false_iff_ne.mpr c2
  have c2b1 : (((l0_0.length : Int) % 64) != 0) = true := bne_iff_ne.mpr c2
  obtain rfl := Option.some.inj H
  go_enter Try.func100, Try.ntmps100
  go_wp2_with (first | ((with_reducible refine gate_dst (N := 1) rfl ?_); (try (refine gate_guard (by rfl) ?_; dsimp only)); refine box_event (by rfl) (N := 1) (by rfl) (cs := #[.slice A0_0 l0_0.length c0_0]) (t := 34) Z4 ?_; intro gb112 hg w5 hbox hb; have BK112 := Z (hbox); have GW112 := Z ((Z54 : w.heap.size ≤ gb112)); have GE112 := Z ((Z54 : w.heap.size ≤ gb112)); replace HB := Z (below_step Z33 hb); clear hb hbox hg; have hcz6_0 : w5.cell? ⟨gb112, 0, none⟩ = some (.slice A0_0 l0_0.length c0_0) := (blk_cell BK112.out 0).trans rfl; have hfz6_0 := blk_frozen BK112.out 0))
  go_ret
  exact ⟨Z8, Z33⟩

-- NOT PRINTED: function 120 (slices_IndexFunc_int_int)

-- NOT PRINTED: function 101 (slices_ContainsFunc_int_int)

/-! ### impl_within: function 103 -/
def impl_within.f (a0 : Int) (a1 : Int) (a2 : Int) : Option (Bool) := if a1 ≤ a0 then (some (decide (a0 ≤ a2))) else (some false)
set_option maxHeartbeats 8000000 in
set_option maxRecDepth 100000 in
theorem impl_within.calls (a0 : Int) (a1 : Int) (a2 : Int) (r : Bool) (w : World) (h : impl_within.f a0 a1 a2 = some r) :
  Calls Try.prog 103 #[.int .i64 a0, .int .i64 a1, .int .i64 a2] w fun e w' => e = .returned (.bool r) ∧ Drawn0 w w' := by
 have H : (if a1 ≤ a0 then (some (decide (a0 ≤ a2))) else (some false)) = some r := h
 clear h
 by_cases c4 : a1 ≤ a0
 ·rw [if_pos c4] at H
  have c4b0 : decide (a1 ≤ a0) = true := decide_eq_true c4
  clear c4
  obtain rfl := Option.some.inj H
  go_enter Try.func103, Try.ntmps103
  go_wp2
  go_ret
  exact ⟨Z0, Z1⟩
 ·rw [if_neg c4] at H
  have c4b0 : decide (a1 ≤ a0) = false := decide_eq_false c4
  clear c4
  obtain rfl := Option.some.inj H
  go_enter Try.func103, Try.ntmps103
  go_wp2
  go_ret
  exact ⟨Z0, Z1⟩

/-! ### impl_hasBlocks: function 74 (by hand: a closure is handed on; at a list of one number) -/
def impl_hasBlocks.f (l0_0 : List Int) (l1 : List Int) : Option (Bool) := match l1 with
 | [b] => (impl_StoreOk.f l0_0).bind fun t => if t = true then (impl_within.f b 0 (wrap64 ((wrap64 ((l0_0.length : Int) / 64)) - 1))) else some false
 | _ => none
set_option maxHeartbeats 2000000 in
set_option maxRecDepth 100000 in
theorem impl_hasBlocks.calls (A0_0 : Option Addr) (c0_0 : Nat) (l0_0 : List Int) (A1 : Option Addr) (c1 : Nat) (l1 : List Int) (r : Bool) (w : World) (hr0_0 : Kd.C (Kd.int .u32) w A0_0 l0_0.length l0_0) (hc0_0 : l0_0.length ≤ c0_0) (hr1 : Kd.C (Kd.int .i64) w A1 l1.length l1) (hc1 : l1.length ≤ c1) (h : impl_hasBlocks.f l0_0 l1 = some r) :
  Calls Try.prog 74 #[.agg #[.slice A0_0 l0_0.length c0_0], .slice A1 l1.length c1] w fun e w' => e = .returned (.bool r) ∧ Below w.heap.size w w' := by
 have hu := Try.underlying34
 unfold impl_hasBlocks.f at h
 split at h
 case h_2 => cases h
 rename_i b
 replace h := Option.bind_eq_some_iff.mp h
 obtain ⟨t1, h1, h2⟩ := h
 have H1 := Aside0.mk h1
 have HR0 := Aside0.mk hr0_0
 have HC0 := Aside0.mk hc0_0
 obtain ⟨ad, rfl, hb⟩ : ∃ ad, A1 = some ad ∧ w.cell? (ad.add 0) = some (.int .i64 b) := by
  obtain ⟨ad, e, hx⟩ := Kd.at_int hr1 0 (by omega) (by simp)
  exact ⟨ad, e, hx⟩
 have HBB := Aside0.mk hb
 clear h1 hr0_0 hc0_0 hr1 hb
 cases t1 with
 | false =>
  rw [if_neg (by simp)] at h2
  obtain rfl := Option.some.inj h2
  clear h2
  go_enter Try.func74, Try.ntmps74
  go_wp2_with (go_at_call 100; refine (impl_StoreOk.calls _ _ l0_0 false _ (Kd.C_alloc HR0.out _) HC0.out H1.out).mono ?_; rintro e w1 ⟨rfl, hb1⟩)
  go_ret
  exact ⟨rfl, ((Below.refl _ w).alloc (Nat.le_refl _) _).trans (hb1.mono (by simp))⟩
 | true =>
  rw [if_pos rfl] at h2
  have H2 := Aside0.mk h2
  clear h2
  go_enter Try.func74, Try.ntmps74
  go_wp2_with fail
  refine (impl_StoreOk.calls _ _ l0_0 true _ (Kd.C_alloc HR0.out _) HC0.out H1.out).mono ?_
  rintro e w1 ⟨rfl, hb1⟩
  have hcell : w1.cell? ⟨w.heap.size, 0, none⟩ = some (.slice A0_0 l0_0.length c0_0) := by
   refine (hb1.cell (p := ⟨w.heap.size, 0, none⟩) (by simp)).trans ?_
   simp
  have hloc : (ad.add 0) = ad := by unfold Addr.add; simp
  have hcb : w1.cell? ad = some (.int .i64 b) := by
   rw [← hloc]
   have hlt := World.block_lt_of_cell? w _ HBB.out
   exact ((hb1.cell (p := ad.add 0) (by simp; omega)).trans (World.cell?_alloc_lt w _ _ hlt)).trans HBB.out
  have HBW : Below w.heap.size w w1 := ((Below.refl _ w).alloc (Nat.le_refl _) _).trans (hb1.mono (by simp))
  clear hb1
  clear hloc
  go_wp2_with (first | (go_at_call 101; go_in) | (go_at_call 120; go_in) | (go_at_call 102; go_in) | fail)
  refine wp_loop_rounds 2 ?_
  rw [rounds_succ]
  go_wp2_with (first | (go_at_call 102; go_in) | fail)
  cases r with
  | false =>
   refine (impl_within.calls b 0 _ false w1 H2.out).mono ?_
   rintro e w2 ⟨rfl, ⟨nd, rfl⟩⟩
   go_wp2_with fail
   go_ret
   exact ⟨rfl, pw_below_drewN HBW nd⟩
  | true =>
   refine (impl_within.calls b 0 _ true w1 H2.out).mono ?_
   rintro e w2 ⟨rfl, ⟨nd, rfl⟩⟩
   go_wp2_with fail
   rw [rounds_succ]
   go_wp2_with fail
   go_ret
   exact ⟨rfl, pw_below_drewN HBW nd⟩

/-! ### slices_Clone_uint32_uint32: function 75 (by hand: a slice held against nil) -/
def slices_Clone_uint32_uint32.f (l0 : List Int) : Option (List Int) := if l0.length ≤ 35184372088831 then some l0 else none
theorem slices_Clone_uint32_uint32.inf : (Try.prog.info? 47).map (fun i => (i.zero, i.size, i.bytes)) = some (some (.int .u32 0), 1, 4) := Z9
set_option maxHeartbeats 2000000 in
set_option maxRecDepth 100000 in
theorem slices_Clone_uint32_uint32.calls (A0 : Option Addr) (c0 : Nat) (l0 : List Int) (r : List Int) (w : World) (hr0 : Kd.C (Kd.int .u32) w A0 l0.length l0) (hc0 : l0.length ≤ c0) (h : slices_Clone_uint32_uint32.f l0 = some r) :
  Calls Try.prog 75 #[.slice A0 l0.length c0] w fun e w' => ∃ v0_ : Value, e = .returned (v0_) ∧ Kd.R (Kd.int .u32) 47 w' w.heap.size (fun _ => True) v0_ r ∧ Below w.heap.size w w' := by
 unfold slices_Clone_uint32_uint32.f at h
 split at h
 case isFalse => cases h
 rename_i hbig
 obtain rfl := Option.some.inj h
 have q22 : ∀ (w : World) (a : Option Addr) (n c n' c' : Nat), (binOp .eql 24 (.slice a n c) (.slice none n' c')).run Try.prog w = .ok (.bool a.isNone) w := fun w a n c n' c' => Lib.run_eql_slice_nil w _ _ a n c n' c' Try.underlying24
 have HR0 := Aside0.mk hr0
 clear hr0 h
 have HB0 := Aside0.mk hbig
 clear hbig
 cases A0 with
 | none =>
  have hl : l0 = [] := by
   rcases Nat.eq_zero_or_pos l0.length with h0 | h0
   ·exact List.eq_nil_of_length_eq_zero h0
   ·obtain ⟨ad, e, _⟩ := HR0.out.2.2 h0
    cases e
  subst hl
  go_enter Try.func75, Try.ntmps75
  go_wp2
  go_ret
  exact ⟨_, rfl, Kd.R_nil _ _ _ _ _, Below.refl _ _⟩
 | some ad =>
  obtain ⟨i0, hi, hz0, hz1, hz2⟩ := info_parts slices_Clone_uint32_uint32.inf
  have HI := Aside0.mk hi
  have HZ0 := Aside0.mk hz0
  have HZ1 := Aside0.mk hz1
  have HZ2 := Aside0.mk hz2
  clear hi hz0 hz1 hz2
  go_enter Try.func75, Try.ntmps75
  go_wp2_with (at_builtin; refine wpList_append_own _ rfl _ _ 24 rfl w.heap.size 47 i0 _ 1 4 Try.underlying24 HI.out HZ0.out HZ1.out HZ2.out rfl (by omega) _ _ _ rfl (World.ownsRow_made w #[] 0 (Nat.le_refl _) (Nat.zero_le _) (by simp)) ad l0.length c0 (encs (Value.int .u32) l0) rfl ?qc1 ?qc2 ?qc3 ?qc4 ?qc5 ?qc6 ?_)
  case qc1 => simp [encs]
  case qc2 =>
   intro j u hu
   obtain ⟨p, hp, rfl⟩ : ∃ p, l0[j]? = some p ∧ Value.int .u32 p = u := by simpa [encs] using hu
   obtain ⟨hj, hp⟩ := List.getElem?_eq_some_iff.1 hp
   obtain ⟨ad', e, hx⟩ := Kd.at_int (Kd.C_alloc HR0.out (.cells #[] 47)) (j : Int) (by omega) (by omega)
   injection e with e
   subst e
   rw [Int.toNat_natCast] at hx
   rw [hx]
   simp [rd, hp, List.getElem?_eq_getElem hj]
  case qc3 =>
   intro u hu
   obtain ⟨p, _, rfl⟩ := List.mem_map.1 hu
   rfl
  case qc4 => have := HB0.out; unfold maxLen; omega
  case qc5 => have := HB0.out; omega
  case qc6 => simp
  intro v' w1 hown hgrow hnil
  go_wp2
  go_ret
  refine ⟨v', rfl, Kd.R_of_own (by simpa using hown) (fun _ _ => trivial), ?_⟩
  exact ((Below.refl _ w).alloc (Nat.le_refl _) _).grown hgrow (by simp) (by intro k hk; simp [Value.ownBlock] at hk; omega)

/-! ### impl_PutBlock: function 39 -/
def impl_PutBlock.g (l0_0 : List Int) (a1 : Int) (l2 : List Int) : Option (List Int × Bool) := (impl_hasBlocks.f l0_0 (([a1] : List Int))).bind fun t118 => (if t118 = true then (if (l2.length : Int) > 64 then (some (([] : List Int), false)) else ((slices_Clone_uint32_uint32.f l0_0).bind fun t119 => (some (t119, true)))) else (some (([] : List Int), false)))
/-- Cells laid over a row of noughts from a place on. -/
def putAt (l : List Int) (o : Nat) (cs : List Int) : List Int := splice (splice l o (List.replicate 64 0)) o cs
def impl_PutBlock.f (l0_0 : List Int) (a1 : Int) (l2 : List Int) : Option (List Int × Bool) := (impl_PutBlock.g l0_0 a1 l2).bind fun r => if r.2 = true then (if 0 ≤ a1 ∧ (a1 + 1) * 64 ≤ (r.1.length : Int) ∧ r.1.length ≤ 1048576 ∧ l2.length ≤ 64 then some (putAt r.1 (a1 * 64).toNat l2, true) else none) else some r
theorem set_splice {α : Type} (cur : List α) (o : Nat) (v : α) (vs : List α) (h : o < cur.length) : splice (cur.set o v) (o + 1) vs = splice cur o (v :: vs) := by
 unfold splice
 rw [List.take_succ_eq_append_getElem (by rw [List.length_set]; exact h), List.take_set_of_le (Nat.le_refl _), List.getElem_set_self, List.drop_set_of_lt (by omega), List.length_cons, List.append_assoc, List.singleton_append, List.cons_append, show o + 1 + vs.length = o + (vs.length + 1) by omega]
theorem setCells_blk (g t : Nat) : ∀ (vs : List Value) (o : Nat) (w : World) (cur : List Value), w.heap[g]? = some (.cells cur.toArray t (0, 0)) → o + vs.length ≤ cur.length → (w.setCells g o vs).heap[g]? = some (.cells (splice cur o vs).toArray t (0, 0))
 | [], o, w, cur, h, hl => by
  rw [World.setCells, h]; simp [splice]
 | v :: vs, o, w, cur, h, hl => by
  rw [List.length_cons] at hl
  rw [World.setCells, setCells_blk g t vs (o + 1) _ (cur.set o v) (by rw [blk_set h]; simp) (by rw [List.length_set]; omega), set_splice _ _ _ _ (by omega)]
theorem setCells_other (g k : Nat) (hk : k ≠ g) : ∀ (vs : List Value) (o : Nat) (w : World), (w.setCells g o vs).heap[k]? = w.heap[k]?
 | [], _, _ => rfl
 | v :: vs, o, w => by
  rw [World.setCells, setCells_other g k hk vs, Below.heap_setCell w ⟨g, o, none⟩ v k hk]
theorem setCells_below {w : World} {g : Nat} (hg : w.heap.size ≤ g) : ∀ (vs : List Value) (o : Nat) (W : World), Below w.heap.size w W → Below w.heap.size w (W.setCells g o vs)
 | [], _, _, h => h
 | v :: vs, o, W, h => by
  rw [World.setCells]
  exact setCells_below hg vs (o + 1) _ (below_set h hg)
theorem take_splice {α : Type} (cur : List α) (o n : Nat) (vs : List α) (h : o + vs.length ≤ n) (hn : n ≤ cur.length) : (splice cur o vs).take n = splice (cur.take n) o vs := by
 unfold splice
 simp only [List.take_append, List.length_take, List.take_take, List.drop_take]
 rw [Nat.min_eq_left (show o ≤ cur.length by omega), Nat.min_eq_right (show o ≤ n by omega), Nat.min_eq_left (show o ≤ n by omega), List.take_of_length_le (l := vs) (by omega), Nat.sub_sub]
theorem encs_splice (f : Int → Value) (l : List Int) (o : Nat) (cs : List Int) : encs f (splice l o cs) = splice (encs f l) o (encs f cs) := by
 simp [splice, encs]
theorem copy_splice_more {P : Program} {w : World} {ops : Array Oper} {rest : List Oper} {o : Oper} {a : Act} {Q : Exit → Act → World → Prop} (hgd : o.guard = none) (d s : Operand) (dT sT : TypeId)
  (ho : o.op = .call { callee := .builtin .copy, args := #[d, s], argTypes := #[dT, sT] }) (elem : TypeId) (hu : P.underlying dT = some (.slice elem)) (hsz : (P.info? elem).map (·.size) = some 1)
  (dp sp : Option Addr) (dLen dCap sLen sCap : Nat) (hd : a.eval d = .slice dp dLen dCap) (hs : a.eval s = .slice sp sLen sCap)
  (g off : Nat) (cur : List Value) (t : TypeId) (hg : w.heap[g]? = some (.cells cur.toArray t (0, 0))) (cs : List Value) (hn : cs.length = Nat.min sLen dLen)
  (hpos : 0 < cs.length → dp = some ⟨g, off, none⟩ ∧ ∃ ad, sp = some ad ∧ ∀ j v, cs[j]? = some v → w.cell? (ad.add j) = some v)
  (hfit : off + cs.length ≤ cur.length) (h1 : ∀ v ∈ cs, v.oneCell' = true) (B : Nat) (w0 : World) (hb : Below B w0 w) (hBg : B ≤ g)
  (h : ∀ w', Hid (w'.heap[g]? = some (.cells (splice cur off cs).toArray t (0, 0))) → Hid (∀ k, k ≠ g → w'.heap[k]? = w.heap[k]?) → Below B w0 w' → wpList P ops Q rest (a.put o.dst (goInt cs.length)) w') :
  wpList P ops Q (o :: rest) a w := by
 by_cases h0 : cs.length = 0
 ·obtain rfl : cs = [] := List.eq_nil_of_length_eq_zero h0
  refine wpList_copy_nothing hgd d s dT sT ho elem hu hsz dp sp dLen dCap sLen sCap hd hs (by simpa using hn.symm) ?_
  exact h w (show _ = _ by simpa [splice] using hg) (fun _ _ => rfl) hb
 ·obtain ⟨rfl, ad, rfl, hsrc⟩ := hpos (by omega)
  refine wpList_copy_own hgd d s dT sT ho elem hu hsz g off dLen dCap ad sLen sCap hd hs cur.toArray t hg cs hn hsrc (by simpa using hfit) h1 ?_
  exact h _ (show _ = _ by simpa [splice] using setRow_heap w g _ _ t _ hg) (fun k hk => setRow_other w g k _ hk) (below_setRow hb hBg _)
theorem impl_PutBlock.inf : (Try.prog.info? 47).map (·.size) = some 1 := Z9
theorem impl_PutBlock.zero (w : World) : (zeroValue 47).run Try.prog w = .ok (.int .u32 0) w := Z9
theorem impl_PutBlock.cut (go n cap : Nat) (i j : Int) (h0 : 0 ≤ i) (h1 : j = i + 64) (h2 : j ≤ (n : Int)) (h3 : n ≤ cap) (W : World) :
  (Instr.slice 24 (.slice (some ⟨go, 0, none⟩) n cap) (some (.int .i64 i)) (some (.int .i64 j)) none).run Try.prog W = .ok (.slice (some ⟨go, i.toNat, none⟩) 64 (cap - i.toNat)) W := by
 obtain ⟨i0, hi, hz⟩ := Option.map_eq_some_iff.1 impl_PutBlock.inf
 have hel : Program.elem Try.prog 24 = 47 := by simp [Program.elem, Try.underlying24]
 have hu : Try.prog.underlying 24 = some (.slice (Program.elem Try.prog 24)) := by rw [hel]; exact Try.underlying24
 rw [run_slice_lh W 24 _ n cap hu .i64 .i64 i j h0 (by omega) (by omega), hel]
 have hcap : ¬ cap = i.toNat := by omega
 have hij : j.toNat - i.toNat = 64 := by omega
 simp [sizeOf, typeInfo, hi, hz, sliced, Result.andThen, Addr.add, hcap, hij]
 intro h_
 omega
set_option maxHeartbeats 8000000 in
set_option maxRecDepth 100000 in
theorem impl_PutBlock.calls (A0_0 : Option Addr) (c0_0 : Nat) (l0_0 : List Int) (a1 : Int) (A2 : Option Addr) (c2 : Nat) (l2 : List Int) (r1 : List Int) (r2 : Bool) (w : World) (hr0_0 : Kd.C (Kd.int .u32) w A0_0 l0_0.length l0_0) (hc0_0 : l0_0.length ≤ c0_0) (hr2 : Kd.C (Kd.int .u32) w A2 l2.length l2) (hc2 : l2.length ≤ c2) (h : impl_PutBlock.f l0_0 a1 l2 = some (r1, r2)) :
  Calls Try.prog 39 #[.agg #[.slice A0_0 l0_0.length c0_0], .int .i64 a1, .slice A2 l2.length c2] w fun e w' => ∃ v0_ : Value, e = .returned (.tuple #[.agg #[v0_], .bool r2]) ∧ Kd.R (Kd.int .u32) 47 w' w.heap.size (fun _ => True) v0_ r1 ∧ Below w.heap.size w w' := by
 have hu34 := Try.underlying34
 have HR0_0 := Aside0.mk hr0_0
 have HC0_0 := Aside0.mk hc0_0
 clear hr0_0 hc0_0
 have HR2 := Aside0.mk hr2
 have HC2 := Aside0.mk hc2
 clear hr2 hc2
 obtain ⟨⟨q1, q2⟩, h0, h2⟩ := Option.bind_eq_some_iff.mp h
 clear h
 have H2_ := Aside0.mk h2
 clear h2
 have HB := Z (Below.refl w.heap.size w)
 have H : ((impl_hasBlocks.f l0_0 (([a1] : List Int))).bind fun t118 => (if t118 = true then (if (l2.length : Int) > 64 then (some (([] : List Int), false)) else ((slices_Clone_uint32_uint32.f l0_0).bind fun t119 => (some (t119, true)))) else (some (([] : List Int), false)))) = some (q1, q2) := h0
 clear h0
 obtain ⟨y115, hy115⟩ : ∃ y_ : List Int, y_ = (([a1] : List Int)) := ⟨_, rfl⟩
 replace H : ((impl_hasBlocks.f l0_0 y115).bind fun t118 => (if t118 = true then (if (l2.length : Int) > 64 then (some (([] : List Int), false)) else ((slices_Clone_uint32_uint32.f l0_0).bind fun t119 => (some (t119, true)))) else (some (([] : List Int), false)))) = some (q1, q2) := by first | (rw [hy115]; with_reducible exact H) | (have H2_ := (Option.bind_some _ _).symm.trans H; rw [hy115]; with_reducible exact H2_) | (have H2_ := (Option.bind_some _ _).symm.trans H; with_reducible exact H2_) | with_reducible exact H | (rw [hy115]; exact H) | exact H
 have Ny115 := Aside0.mk hy115
 clear hy115
 replace H := Option.bind_eq_some_iff.mp H
 obtain ⟨t118, A40, H⟩ := H
 replace H : (if t118 = true then (if (l2.length : Int) > 64 then (some (([] : List Int), false)) else ((slices_Clone_uint32_uint32.f l0_0).bind fun t119 => (some (t119, true)))) else (some (([] : List Int), false))) = some (q1, q2) := H
 have A4 := Aside0.mk A40
 clear A40
 by_cases c5 : t118 = true
 ·subst c5
  have H1 : (if (l2.length : Int) > 64 then (some (([] : List Int), false)) else ((slices_Clone_uint32_uint32.f l0_0).bind fun t119 => (some (t119, true)))) = some (q1, q2) := Z10
  clear H
  have H := H1
  clear H1
  by_cases c6 : (l2.length : Int) > 64
  ·rw [if_pos c6] at H
   have c6b0 : decide (64 < (l2.length : Int)) = true := decide_eq_true c6
   have c6b1 : decide (64 < l2.length) = true := decide_eq_true (by omega)
   clear c6
   simp only [Option.some.injEq, Prod.mk.injEq] at H
   obtain ⟨rfl, rfl⟩ := H
   have h2 := H2_.out
   clear H2_
   rw [if_neg (by simp)] at h2
   simp only [Option.some.injEq, Prod.mk.injEq] at h2
   obtain ⟨rfl, rfl⟩ := h2
   go_enter Try.func39, Try.ntmps39
   go_wp2_with (first | ((with_reducible refine gate_dst (N := 3) rfl ?_); (try (refine gate_guard (by rfl) ?_; dsimp only)); refine box_event (by rfl) (N := 3) (by rfl) (cs := #[.slice A0_0 l0_0.length c0_0]) (t := 34) Z4 ?_; intro gb113 hg w7 hbox hb; have BK113 := Z (hbox); have GW113 := Z ((Z54 : w.heap.size ≤ gb113)); have GE113 := Z ((Z54 : w.heap.size ≤ gb113)); replace HB := Z (below_step Z33 hb); clear hb hbox hg) | ((with_reducible refine gate_dst (N := 6) rfl ?_); (try (refine gate_guard (by rfl) ?_; dsimp only)); refine box_event (by rfl) (N := 6) (by rfl) (cs := #[.slice none 0 0]) (t := 34) Z4 ?_; intro gb114 hg w8 hbox hb; have BK114 := Z (hbox); have GW114 := Z ((Z54 : w.heap.size ≤ gb114)); have GE114 := Z ((Z54 : w.heap.size ≤ gb114)); replace HB := Z (below_step Z33 hb); have NB113_114 := Z ((Z34 : gb113 ≠ gb114)); have NB114_113 := Z ((Z35 : gb114 ≠ gb113)); replace BK113 := Z (blk_below (g := gb113) (o := .cells #[.slice A0_0 l0_0.length c0_0] 34 (0, 0)) (Z11 BK113) hb); clear hb hbox hg; have hnb9 := NB113_114.out; have hnc9 := NB114_113.out; have hcz10_0 : w8.cell? ⟨gb113, 0, none⟩ = some (.slice A0_0 l0_0.length c0_0) := (blk_cell BK113.out 0).trans rfl; have hfz10_0 := blk_frozen BK113.out 0) | ((with_reducible refine gate_dst (N := 12) rfl ?_); (try (refine gate_guard (by rfl) ?_; dsimp only)); refine Kd.R_lit (Kd.int .i64) _ 3 (by rfl) (N := 12) (by rfl) (xs := ([a1] : List Int)) (inner := [.int .i64 a1]) (ok := fun _ => True) (okp := fun _ => True) Z4 (Reps.one (show Kd.M (Kd.int .i64) _ _ _ a1 [.int .i64 a1] from rfl) (Reps.none _ _)) (fun _ hk => hk) trivial (Below.refl _ _) (Nat.le_refl _) (by simp) ?_; intro v116 w11 ho12 hb hg_ hnew_; clear hg_ hnew_; (first | rw [← Ny115.out] at ho12 | (simp only [Int.reduceToNat] at ho12; rw [← Ny115.out] at ho12)); have HO117 := Z (Kd.R_lower ho12 (below_size Z33)); replace BK113 := Z (blk_below (g := gb113) (o := .cells #[.slice A0_0 l0_0.length c0_0] 34 (0, 0)) (Z11 BK113) hb); replace BK114 := Z (blk_below (g := gb114) (o := .cells #[.slice none 0 0] 34 (0, 0)) (Z11 BK114) hb); replace HB := Z (below_step Z33 hb); clear hb ho12; obtain ⟨Ao13, co13, eo13⟩ := Kd.R_slice HO117.out; subst eo13) | ((with_reducible refine gate_callee (f := 74) rfl ?_); refine goesL_ (some 13) rfl rfl Try.func74 Z9 rfl #[.agg #[.slice A0_0 l0_0.length c0_0], .slice Ao13 y115.length co13] rfl Z12 ?_; (with_reducible refine (impl_hasBlocks.calls _ _ l0_0 _ _ y115 true _ ?side1 ?side2 ?side3 ?side4 A4.out).mono ?_); (case side1 => exact (Z6 HR0_0)); (case side2 => exact HC0_0.out); (case side3 => exact (Z13 HO117)); (case side4 => exact (Kd.R_reads' HO117.out).2.1); rintro e w14 ⟨rfl, hb⟩; refine ⟨_, rfl, ?_⟩; replace HO117 := Z (Kd.R_below (Z7 HO117) hb); replace BK113 := Z (blk_below (g := gb113) (o := .cells #[.slice A0_0 l0_0.length c0_0] 34 (0, 0)) (Z11 BK113) hb); replace BK114 := Z (blk_below (g := gb114) (o := .cells #[.slice none 0 0] 34 (0, 0)) (Z11 BK114) hb); replace HB := Z (below_step Z33 hb); (try clear hb); (try clear hb2); (try clear hk); (try clear hi); have hcz15_0 : w14.cell? ⟨gb114, 0, none⟩ = some (.slice none 0 0) := (blk_cell BK114.out 0).trans rfl; have hfz15_0 := blk_frozen BK114.out 0))
   refine bodyPost_ret (results_ct rfl _ _ gb114 34 #[.slice none 0 0] (0, 0) _ rfl (Z14 BK114) Try.underlying34 rfl Z9) rfl ?_
   exact ⟨_, Z8, Z15, Z33⟩
  ·rw [if_neg c6] at H
   have c6b0 : decide (64 < (l2.length : Int)) = false := decide_eq_false c6
   have c6b1 : decide (64 < l2.length) = false := decide_eq_false (by omega)
   clear c6
   replace H := Option.bind_eq_some_iff.mp H
   obtain ⟨t119, A160, H⟩ := H
   replace H : (some (t119, true)) = some (q1, q2) := H
   have A16 := Aside0.mk A160
   clear A160
   simp only [Option.some.injEq, Prod.mk.injEq] at H
   obtain ⟨rfl, rfl⟩ := H
   have h2 := H2_.out
   clear H2_
   rw [if_pos rfl] at h2
   split at h2
   case isFalse => cases h2
   rename_i hbd_
   simp only [Option.some.injEq, Prod.mk.injEq] at h2
   obtain ⟨rfl, rfl⟩ := h2
   have HBD := Aside0.mk hbd_
   clear hbd_
   go_enter Try.func39, Try.ntmps39
   go_upto_region 4 with (first | ((with_reducible refine gate_dst (N := 3) rfl ?_); (try (refine gate_guard (by rfl) ?_; dsimp only)); refine box_event (by rfl) (N := 3) (by rfl) (cs := #[.slice A0_0 l0_0.length c0_0]) (t := 34) Z4 ?_; intro gb113 hg w17 hbox hb; have BK113 := Z (hbox); have GW113 := Z ((Z54 : w.heap.size ≤ gb113)); have GE113 := Z ((Z54 : w.heap.size ≤ gb113)); replace HB := Z (below_step Z33 hb); clear hb hbox hg) | ((with_reducible refine gate_dst (N := 6) rfl ?_); (try (refine gate_guard (by rfl) ?_; dsimp only)); refine box_event (by rfl) (N := 6) (by rfl) (cs := #[.slice none 0 0]) (t := 34) Z4 ?_; intro gb114 hg w18 hbox hb; have BK114 := Z (hbox); have GW114 := Z ((Z54 : w.heap.size ≤ gb114)); have GE114 := Z ((Z54 : w.heap.size ≤ gb114)); replace HB := Z (below_step Z33 hb); have NB113_114 := Z ((Z34 : gb113 ≠ gb114)); have NB114_113 := Z ((Z35 : gb114 ≠ gb113)); replace BK113 := Z (blk_below (g := gb113) (o := .cells #[.slice A0_0 l0_0.length c0_0] 34 (0, 0)) (Z11 BK113) hb); clear hb hbox hg; have hnb19 := NB113_114.out; have hnc19 := NB114_113.out; have hcz20_0 : w18.cell? ⟨gb113, 0, none⟩ = some (.slice A0_0 l0_0.length c0_0) := (blk_cell BK113.out 0).trans rfl; have hfz20_0 := blk_frozen BK113.out 0) | ((with_reducible refine gate_dst (N := 12) rfl ?_); (try (refine gate_guard (by rfl) ?_; dsimp only)); refine Kd.R_lit (Kd.int .i64) _ 3 (by rfl) (N := 12) (by rfl) (xs := ([a1] : List Int)) (inner := [.int .i64 a1]) (ok := fun _ => True) (okp := fun _ => True) Z4 (Reps.one (show Kd.M (Kd.int .i64) _ _ _ a1 [.int .i64 a1] from rfl) (Reps.none _ _)) (fun _ hk => hk) trivial (Below.refl _ _) (Nat.le_refl _) (by simp) ?_; intro v116 w21 ho22 hb hg_ hnew_; clear hg_ hnew_; (first | rw [← Ny115.out] at ho22 | (simp only [Int.reduceToNat] at ho22; rw [← Ny115.out] at ho22)); have HO117 := Z (Kd.R_lower ho22 (below_size Z33)); replace BK113 := Z (blk_below (g := gb113) (o := .cells #[.slice A0_0 l0_0.length c0_0] 34 (0, 0)) (Z11 BK113) hb); replace BK114 := Z (blk_below (g := gb114) (o := .cells #[.slice none 0 0] 34 (0, 0)) (Z11 BK114) hb); replace HB := Z (below_step Z33 hb); clear hb ho22; obtain ⟨Ao23, co23, eo23⟩ := Kd.R_slice HO117.out; subst eo23) | ((with_reducible refine gate_callee (f := 74) rfl ?_); refine goesL_ (some 13) rfl rfl Try.func74 Z9 rfl #[.agg #[.slice A0_0 l0_0.length c0_0], .slice Ao23 y115.length co23] rfl Z12 ?_; (with_reducible refine (impl_hasBlocks.calls _ _ l0_0 _ _ y115 true _ ?side1 ?side2 ?side3 ?side4 A4.out).mono ?_); (case side1 => exact (Z6 HR0_0)); (case side2 => exact HC0_0.out); (case side3 => exact (Z13 HO117)); (case side4 => exact (Kd.R_reads' HO117.out).2.1); rintro e w24 ⟨rfl, hb⟩; refine ⟨_, rfl, ?_⟩; replace HO117 := Z (Kd.R_below (Z7 HO117) hb); replace BK113 := Z (blk_below (g := gb113) (o := .cells #[.slice A0_0 l0_0.length c0_0] 34 (0, 0)) (Z11 BK113) hb); replace BK114 := Z (blk_below (g := gb114) (o := .cells #[.slice none 0 0] 34 (0, 0)) (Z11 BK114) hb); replace HB := Z (below_step Z33 hb); (try clear hb); (try clear hb2); (try clear hk); (try clear hi); have hcz25_0 : w24.cell? ⟨gb113, 0, none⟩ = some (.slice A0_0 l0_0.length c0_0) := (blk_cell BK113.out 0).trans rfl; have hfz25_0 := blk_frozen BK113.out 0) | ((with_reducible refine gate_callee (f := 75) rfl ?_); refine goesL_ (some 23) rfl rfl Try.func75 Z9 rfl #[.slice A0_0 l0_0.length c0_0] rfl Z12 ?_; (with_reducible refine (slices_Clone_uint32_uint32.calls _ _ l0_0 t119 _ ?side1 ?side2 A16.out).mono ?_); (case side1 => exact (Z6 HR0_0)); (case side2 => exact HC0_0.out); rintro e w26 ⟨v120, rfl, ho0, hb⟩; refine ⟨_, rfl, ?_⟩; replace HO117 := Z (Kd.R_below (Z7 HO117) hb); have HO121 := Z (Kd.R_lower ho0 (below_size Z33)); replace BK113 := Z (blk_below (g := gb113) (o := .cells #[.slice A0_0 l0_0.length c0_0] 34 (0, 0)) (Z11 BK113) hb); replace BK114 := Z (blk_below (g := gb114) (o := .cells #[.slice none 0 0] 34 (0, 0)) (Z11 BK114) hb); replace HB := Z (below_step Z33 hb); (try clear hb); (try clear hb2); (try clear hk); (try clear hi); (try clear ho0); obtain ⟨Ao27, co27, eo27⟩ := Kd.R_slice HO121.out; subst eo27) | ((with_reducible refine gate_dst (N := 8) rfl ?_); (try (refine gate_guard (by rfl) ?_; dsimp only)); refine box_event (by rfl) (N := 8) (by rfl) (cs := #[.slice none 0 0]) (t := 34) Z4 ?_; intro gb122 hg w28 hbox hb; replace HO117 := Z (Kd.R_below (Z7 HO117) hb); replace HO121 := Z (Kd.R_below (Z7 HO121) hb); have BK122 := Z (hbox); have GW122 := Z ((Z54 : w.heap.size ≤ gb122)); have GE122 := Z ((Z54 : w.heap.size ≤ gb122)); replace HB := Z (below_step Z33 hb); have NB113_122 := Z ((Z34 : gb113 ≠ gb122)); have NB122_113 := Z ((Z35 : gb122 ≠ gb113)); replace BK113 := Z (blk_below (g := gb113) (o := .cells #[.slice A0_0 l0_0.length c0_0] 34 (0, 0)) (Z11 BK113) hb); have NB114_122 := Z ((by rw [hg]; exact Nat.ne_of_lt (blk_lt (g := gb114) (o := .cells #[.slice none 0 0] 34 (0, 0)) (Z11 BK114)) : gb114 ≠ gb122)); have NB122_114 := Z ((by rw [hg]; exact Nat.ne_of_gt (blk_lt (g := gb114) (o := .cells #[.slice none 0 0] 34 (0, 0)) (Z11 BK114)) : gb122 ≠ gb114)); replace BK114 := Z (blk_below (g := gb114) (o := .cells #[.slice none 0 0] 34 (0, 0)) (Z11 BK114) hb); clear hb hbox hg; have hnb29 := NB122_113.out; have hnc29 := NB113_122.out; have hnb30 := NB122_114.out; have hnc30 := NB114_122.out; have hcz31_0 : w28.cell? ⟨gb122, 0, none⟩ = some (.slice none 0 0) := (blk_cell BK122.out 0).trans rfl; have hfz31_0 := blk_frozen BK122.out 0; have hcz32_0 : w28.cell? ⟨gb114, 0, none⟩ = some (.slice none 0 0) := (blk_cell BK114.out 0).trans rfl; have hfz32_0 := blk_frozen BK114.out 0))
   have hbd := HBD.out
   dsimp only at hbd
   have n0_ : Aside0 (Kd.R (Kd.int .u32) 47 (w28.setCell ⟨gb122, 0, none⟩ (.slice Ao27 t119.length co27)) w.heap.size (fun _ => True) (.slice Ao27 t119.length co27) t119) := ⟨Kd.R_mono (Kd.R_far (p := ⟨gb122, 0, none⟩) (Kd.R_types HO121.out BK122.out (by decide)) (fun _ hk => hk.2) _) (fun _ _ => trivial)⟩
   have n1_ : Aside0 ((w28.setCell ⟨gb122, 0, none⟩ (.slice Ao27 t119.length co27)).heap[gb122]? = some (.cells #[.slice Ao27 t119.length co27] 34 (0, 0))) := ⟨(blk_set BK122.out 0 _).trans rfl⟩
   have n2_ : Aside0 ((w28.setCell ⟨gb122, 0, none⟩ (.slice Ao27 t119.length co27)).heap[gb114]? = some (.cells #[.slice none 0 0] 34 (0, 0))) := ⟨blk_far BK114.out NB114_122.out _⟩
   have n3_ : Aside0 (Below w.heap.size w (w28.setCell ⟨gb122, 0, none⟩ (.slice Ao27 t119.length co27))) := ⟨below_set HB.out GE122.out⟩
   clear HO121 BK122 BK114 HB
   generalize (w28.setCell ⟨gb122, 0, none⟩ (.slice Ao27 t119.length co27)) = wa at n0_ n1_ n2_ n3_ ⊢
   have hrow := Kd.own_of_R n0_.out
   obtain ⟨hrl, hrow⟩ := hrow
   rcases hrow with ⟨_, e2⟩ | ⟨go, cap, cur, eo, hge, hg, hnc, hcm, hsz, htk⟩
   ·omega
   injection eo with ea _ ec
   subst ea
   subst ec
   rw [Nat.mul_one] at hsz htk
   have hnx : gb122 ≠ go := fun e_ => Kd.R_ne n0_.out n1_.out (by decide) (by rw [e_]; rfl)
   have hnr : gb114 ≠ go := fun e_ => Kd.R_ne n0_.out n2_.out (by decide) (by rw [e_]; rfl)
   have e1_ : IntKind.i64.wrap (a1 * 64) = a1 * 64 := by rw [IntKind.wrap_i64]; omega
   have e2_ : IntKind.i64.wrap (a1 + 1) = a1 + 1 := by rw [IntKind.wrap_i64]; omega
   have e3_ : IntKind.i64.wrap ((a1 + 1) * 64) = (a1 + 1) * 64 := by rw [IntKind.wrap_i64]; omega
   have hcut := impl_PutBlock.cut go t119.length co27 (a1 * 64) ((a1 + 1) * 64) (by omega) (by omega) (by omega) hnc
   have hcz_ : wa.cell? ⟨gb122, 0, none⟩ = some (.slice (some ⟨go, 0, none⟩) t119.length co27) := (blk_cell n1_.out 0).trans rfl
   have HK_ := Z (And.intro hbd (And.intro hge (And.intro hg (And.intro hnc (And.intro hcm (And.intro hsz (And.intro htk (And.intro hnx hnr))))))))
   clear hbd hge hg hnc hcm hsz htk hnx hnr hrl
   go_upto_region 5 with fail
   clear hcut
   obtain ⟨o_, ho_⟩ : ∃ o_ : Nat, (a1 * 64).toNat = o_ := ⟨_, rfl⟩
   rw [ho_]
   obtain ⟨hbd, hge, hg, hnc, hcm, hsz, htk, hnx, hnr⟩ := HK_.out
   have hob : o_ + 64 ≤ t119.length := by omega
   have hcells : ∀ j, j < 64 → (wa.cell? ⟨go, o_ + j, none⟩).isSome = true := by
    intro j hj
    rw [blk_cell hg, Array.getElem?_eq_getElem (by omega)]; rfl
   have hfroz : ∀ j, j < 64 → wa.frozen? ⟨go, o_ + j, none⟩ = false := fun j _ => blk_frozen hg _
   have hcl : ∀ ty, (Builtin.clear_ #[24] ty #[.slice (some ⟨go, o_, none⟩) 64 (co27 - o_)]).run Try.prog wa = .ok (.tuple #[]) (wa.setCells go o_ (List.replicate 64 (.int .u32 0))) :=
    fun ty => Lib.run_clear_slice wa 24 47 ty (.int .u32 0) Try.underlying24 impl_PutBlock.zero rfl rfl go o_ 64 (co27 - o_) (by omega) hcells hfroz
   obtain ⟨Z_, hZ_⟩ : ∃ Z_ : List Value, Z_ = List.replicate 64 (.int .u32 0) := ⟨_, rfl⟩
   have hZl : Z_.length = 64 := by rw [hZ_]; simp
   rw [← hZ_] at hcl
   have HZ_ := Z (And.intro hZ_ hZl)
   clear hbd hge hg hnc hcm hsz htk hnx hnr hob hcells hfroz hZ_ hZl
   go_upto_region 6 with (simp only [hcl])
   clear hcl
   obtain ⟨hbd, hge, hg, hnc, hcm, hsz, htk, hnx, hnr⟩ := HK_.out
   obtain ⟨hZ_, hZl⟩ := HZ_.out
   have g1_ : Aside0 ((wa.setCells go o_ Z_).heap[go]? = some (.cells (splice cur.toList o_ Z_).toArray 47 (0, 0))) := ⟨setCells_blk go 47 Z_ o_ wa cur.toList (by simpa using hg) (by simp; omega)⟩
   have n4_ : Aside0 ((wa.setCells go o_ Z_).heap[gb122]? = some (.cells #[.slice (some ⟨go, 0, none⟩) t119.length co27] 34 (0, 0))) := ⟨(setCells_other go _ hnx Z_ o_ wa).trans n1_.out⟩
   have n5_ : Aside0 ((wa.setCells go o_ Z_).heap[gb114]? = some (.cells #[.slice none 0 0] 34 (0, 0))) := ⟨(setCells_other go _ hnr Z_ o_ wa).trans n2_.out⟩
   have n6_ : Aside0 (Below w.heap.size w (wa.setCells go o_ Z_)) := ⟨setCells_below hge Z_ o_ wa n3_.out⟩
   clear n0_ n1_ n2_ n3_ hcz_
   generalize (wa.setCells go o_ Z_) = wb at g1_ n4_ n5_ n6_ ⊢
   have HC2_ := Z (Kd.C_below HR2.out n6_.out)
   obtain ⟨X_, hX_⟩ : ∃ X_ : List Value, X_ = encs (Value.int .u32) l2 := ⟨_, rfl⟩
   have hXl : X_.length = l2.length := by rw [hX_]; simp [encs]
   have hX1 : ∀ v ∈ X_, v.oneCell' = true := by
    rw [hX_]; intro v hv; obtain ⟨p, _, rfl⟩ := List.mem_map.1 hv; rfl
   have hpos : 0 < X_.length → ∃ ad, A2 = some ad ∧ ∀ j v, X_[j]? = some v → wb.cell? (ad.add j) = some v := by
    intro h0
    obtain ⟨ad, e, _⟩ := Kd.at_int HC2_.out 0 (by omega) (by omega)
    refine ⟨ad, e, fun j v hv => ?_⟩
    rw [hX_] at hv
    obtain ⟨p, hp, rfl⟩ : ∃ p, l2[j]? = some p ∧ Value.int .u32 p = v := by simpa [encs] using hv
    obtain ⟨hj, hp⟩ := List.getElem?_eq_some_iff.1 hp
    obtain ⟨ad', e', hx⟩ := Kd.at_int HC2_.out (j : Int) (by omega) (by omega)
    rw [e] at e'
    injection e' with e'
    subst e'
    rw [Int.toNat_natCast] at hx
    rw [hx]
    simp [rd, hp, List.getElem?_eq_getElem hj]
   have hmin : X_.length = Nat.min l2.length 64 := by rw [hXl]; exact (Nat.min_eq_left hbd.2.2.2).symm
   have hfit : o_ + X_.length ≤ (splice cur.toList o_ Z_).length := by rw [length_splice _ _ _ (by simp; omega)]; simp; omega
   have HP_ := Z (And.intro hXl (And.intro hX1 (And.intro hpos (And.intro hmin (And.intro hfit hX_)))))
   clear hbd hge hg hnc hcm hsz htk hnx hnr hZ_ hZl hXl hX1 hpos hmin hfit hX_
   go_upto_region 7 with ((with_reducible refine gate_dst (N := 36) rfl ?_); refine copy_splice_more rfl (.tmp 34) (.tmp 35) 24 24 rfl 47 Try.underlying24 impl_PutBlock.inf _ _ 64 (co27 - o_) l2.length c2 rfl rfl go o_ (splice cur.toList o_ Z_) 47 g1_.out X_ HP_.out.2.2.2.1 (fun h_ => ⟨rfl, HP_.out.2.2.1 h_⟩) HP_.out.2.2.2.2.1 HP_.out.2.1 w.heap.size w n6_.out HK_.out.2.1 ?_; intro w2 HG2 HO2 hB2)
   obtain ⟨hbd, hge, hg, hnc, hcm, hsz, htk, hnx, hnr⟩ := HK_.out
   have hZ_ : Z_ = encs (Value.int .u32) (List.replicate 64 0) := by rw [HZ_.out.1]; simp [encs]
   have hZl := HZ_.out.2
   have hXl := HP_.out.1
   have hX_ := HP_.out.2.2.2.2.2
   have n7_ : Aside0 (w2.heap[gb122]? = some (.cells #[.slice (some ⟨go, 0, none⟩) t119.length co27] 34 (0, 0))) := ⟨(HO2 _ hnx).trans n4_.out⟩
   have n8_ : Aside0 (w2.heap[gb114]? = some (.cells #[.slice none 0 0] 34 (0, 0))) := ⟨(HO2 _ hnr).trans n5_.out⟩
   have hp1 : (splice t119 o_ (List.replicate 64 (0 : Int))).length = t119.length := length_splice _ _ _ (by rw [List.length_replicate]; omega)
   have hpl : (putAt t119 o_ l2).length = t119.length := by
    unfold putAt
    rw [length_splice _ _ _ (by rw [hp1]; omega), hp1]
   have hct : cur.toList.length = cur.size := Array.length_toList
   have hcl1 : (splice cur.toList o_ Z_).length = cur.size := by rw [length_splice _ _ _ (by omega), hct]
   have hcl2 : (splice (splice cur.toList o_ Z_) o_ X_).length = cur.size := by rw [length_splice _ _ _ (by rw [hcl1]; omega), hcl1]
   have hrow : Aside0 (Kd.R (Kd.int .u32) 47 w2 w.heap.size (fun _ => True) (.slice (some ⟨go, 0, none⟩) t119.length co27) (putAt t119 o_ l2)) := by
    refine ⟨Kd.R_of_own ⟨by simp [encs], .inr ⟨go, co27, _, by rw [hpl], hge, HG2, by rw [hpl]; exact hnc, hcm, by rw [List.size_toArray, hcl2, hsz, Nat.mul_one], ?_⟩⟩ (fun _ _ => trivial)⟩
    rw [hpl, Nat.mul_one, List.toList_toArray, take_splice _ _ _ _ (by omega) (by rw [hcl1]; omega), take_splice _ _ _ _ (by omega) (by omega), htk, hZ_, hX_, ← encs_splice, ← encs_splice]
    rfl
   have HB2_ := Aside0.mk hB2
   have hcz1_ : w2.cell? ⟨gb122, 0, none⟩ = some (.slice (some ⟨go, 0, none⟩) t119.length co27) := (blk_cell n7_.out 0).trans rfl
   have hcz2_ : w2.cell? ⟨gb114, 0, none⟩ = some (.slice none 0 0) := (blk_cell n8_.out 0).trans rfl
   have hfz2_ := blk_frozen n8_.out 0
   clear hbd hge hg hnc hcm hsz htk hnx hnr hZ_ hZl hXl hX_ hp1 hpl hct hcl1 hcl2 HG2 HO2 hB2
   go_wp2
   refine bodyPost_ret (results_ct rfl _ _ gb114 34 #[.slice (some ⟨go, 0, none⟩) t119.length co27] (0, 0) _ rfl (by (with_reducible repeat (first | refine blk_drewN ?_ _ | refine blk_drew ?_ | refine blk_alloc ?_ _)); refine blk_put (cs := #[.slice none 0 0]) ?_ 0 _ rfl; (with_reducible repeat (first | refine blk_drewN ?_ _ | refine blk_drew ?_ | refine blk_alloc ?_ _)); exact n8_.out) Try.underlying34 rfl Z9) rfl ?_
   exact ⟨_, rfl, by (with_reducible repeat (first | apply Kd.R_alloc | apply Kd.R_drewN | apply Kd.R_drew)); exact Kd.R_mono (Kd.R_far (p := ⟨gb114, 0, none⟩) (Kd.R_types hrow.out n8_.out (by decide)) (fun _ hk => hk.2) _) (fun _ _ => trivial), by repeat (first | (with_reducible first | exact HB2_.out | apply below_alloc | apply pw_below_drewN | apply below_drew1 | refine below_set ?_ GE114.out) | exact HB2_.out)⟩
 ·replace c5 := Bool.eq_false_iff.mpr c5
  subst c5
  have H1 : (some (([] : List Int), false)) = some (q1, q2) := by rw [if_neg (show ¬ (false = true) by decide)] at H; exact H
  clear H
  have H := H1
  clear H1
  simp only [Option.some.injEq, Prod.mk.injEq] at H
  obtain ⟨rfl, rfl⟩ := H
  have h2 := H2_.out
  clear H2_
  rw [if_neg (by simp)] at h2
  simp only [Option.some.injEq, Prod.mk.injEq] at h2
  obtain ⟨rfl, rfl⟩ := h2
  go_enter Try.func39, Try.ntmps39
  go_wp2_with (first | ((with_reducible refine gate_dst (N := 3) rfl ?_); (try (refine gate_guard (by rfl) ?_; dsimp only)); refine box_event (by rfl) (N := 3) (by rfl) (cs := #[.slice A0_0 l0_0.length c0_0]) (t := 34) Z4 ?_; intro gb113 hg w33 hbox hb; have BK113 := Z (hbox); have GW113 := Z ((Z54 : w.heap.size ≤ gb113)); have GE113 := Z ((Z54 : w.heap.size ≤ gb113)); replace HB := Z (below_step Z33 hb); clear hb hbox hg) | ((with_reducible refine gate_dst (N := 6) rfl ?_); (try (refine gate_guard (by rfl) ?_; dsimp only)); refine box_event (by rfl) (N := 6) (by rfl) (cs := #[.slice none 0 0]) (t := 34) Z4 ?_; intro gb114 hg w34 hbox hb; have BK114 := Z (hbox); have GW114 := Z ((Z54 : w.heap.size ≤ gb114)); have GE114 := Z ((Z54 : w.heap.size ≤ gb114)); replace HB := Z (below_step Z33 hb); have NB113_114 := Z ((Z34 : gb113 ≠ gb114)); have NB114_113 := Z ((Z35 : gb114 ≠ gb113)); replace BK113 := Z (blk_below (g := gb113) (o := .cells #[.slice A0_0 l0_0.length c0_0] 34 (0, 0)) (Z11 BK113) hb); clear hb hbox hg; have hnb35 := NB113_114.out; have hnc35 := NB114_113.out; have hcz36_0 : w34.cell? ⟨gb113, 0, none⟩ = some (.slice A0_0 l0_0.length c0_0) := (blk_cell BK113.out 0).trans rfl; have hfz36_0 := blk_frozen BK113.out 0) | ((with_reducible refine gate_dst (N := 12) rfl ?_); (try (refine gate_guard (by rfl) ?_; dsimp only)); refine Kd.R_lit (Kd.int .i64) _ 3 (by rfl) (N := 12) (by rfl) (xs := ([a1] : List Int)) (inner := [.int .i64 a1]) (ok := fun _ => True) (okp := fun _ => True) Z4 (Reps.one (show Kd.M (Kd.int .i64) _ _ _ a1 [.int .i64 a1] from rfl) (Reps.none _ _)) (fun _ hk => hk) trivial (Below.refl _ _) (Nat.le_refl _) (by simp) ?_; intro v116 w37 ho38 hb hg_ hnew_; clear hg_ hnew_; (first | rw [← Ny115.out] at ho38 | (simp only [Int.reduceToNat] at ho38; rw [← Ny115.out] at ho38)); have HO117 := Z (Kd.R_lower ho38 (below_size Z33)); replace BK113 := Z (blk_below (g := gb113) (o := .cells #[.slice A0_0 l0_0.length c0_0] 34 (0, 0)) (Z11 BK113) hb); replace BK114 := Z (blk_below (g := gb114) (o := .cells #[.slice none 0 0] 34 (0, 0)) (Z11 BK114) hb); replace HB := Z (below_step Z33 hb); clear hb ho38; obtain ⟨Ao39, co39, eo39⟩ := Kd.R_slice HO117.out; subst eo39) | ((with_reducible refine gate_callee (f := 74) rfl ?_); refine goesL_ (some 13) rfl rfl Try.func74 Z9 rfl #[.agg #[.slice A0_0 l0_0.length c0_0], .slice Ao39 y115.length co39] rfl Z12 ?_; (with_reducible refine (impl_hasBlocks.calls _ _ l0_0 _ _ y115 false _ ?side1 ?side2 ?side3 ?side4 A4.out).mono ?_); (case side1 => exact (Z6 HR0_0)); (case side2 => exact HC0_0.out); (case side3 => exact (Z13 HO117)); (case side4 => exact (Kd.R_reads' HO117.out).2.1); rintro e w40 ⟨rfl, hb⟩; refine ⟨_, rfl, ?_⟩; replace HO117 := Z (Kd.R_below (Z7 HO117) hb); replace BK113 := Z (blk_below (g := gb113) (o := .cells #[.slice A0_0 l0_0.length c0_0] 34 (0, 0)) (Z11 BK113) hb); replace BK114 := Z (blk_below (g := gb114) (o := .cells #[.slice none 0 0] 34 (0, 0)) (Z11 BK114) hb); replace HB := Z (below_step Z33 hb); (try clear hb); (try clear hb2); (try clear hk); (try clear hi); have hcz41_0 : w40.cell? ⟨gb114, 0, none⟩ = some (.slice none 0 0) := (blk_cell BK114.out 0).trans rfl; have hfz41_0 := blk_frozen BK114.out 0))
  refine bodyPost_ret (results_ct rfl _ _ gb114 34 #[.slice none 0 0] (0, 0) _ rfl (Z14 BK114) Try.underlying34 rfl Z9) rfl ?_
  exact ⟨_, Z8, Z15, Z33⟩

/-! ### impl_BlockOf: function 41 -/
def impl_BlockOf.f (l0_0 : List Int) (a1 : Int) : Option (List Int × Bool) := (impl_hasBlocks.f l0_0 (([a1] : List Int))).bind fun t127 => (if t127 = true then (if 0 ≤ (wrap64 (a1 * 64)) then (if (wrap64 (a1 * 64)) ≤ (wrap64 ((wrap64 (a1 + 1)) * 64)) then (if (wrap64 ((wrap64 (a1 + 1)) * 64)) ≤ (l0_0.length : Int) then ((slices_Clone_uint32_uint32.f ((l0_0.take ((wrap64 ((wrap64 (a1 + 1)) * 64)) : Int).toNat).drop ((wrap64 (a1 * 64)) : Int).toNat)).bind fun t129 => (some (t129, true))) else (none)) else (none)) else (none)) else (some (([] : List Int), false)))
set_option maxHeartbeats 8000000 in
set_option maxRecDepth 100000 in
theorem impl_BlockOf.calls (A0_0 : Option Addr) (c0_0 : Nat) (l0_0 : List Int) (a1 : Int) (r1 : List Int) (r2 : Bool) (w : World) (hr0_0 : Kd.C (Kd.int .u32) w A0_0 l0_0.length l0_0) (hc0_0 : l0_0.length ≤ c0_0) (h : impl_BlockOf.f l0_0 a1 = some (r1, r2)) :
  Calls Try.prog 41 #[.agg #[.slice A0_0 l0_0.length c0_0], .int .i64 a1] w fun e w' => ∃ v0_ : Value, e = .returned (.tuple #[v0_, .bool r2]) ∧ Kd.R (Kd.int .u32) 47 w' w.heap.size (fun _ => True) v0_ r1 ∧ Below w.heap.size w w' := by
 have hu34 := Try.underlying34
 have HR0_0 := Aside0.mk hr0_0
 have HC0_0 := Aside0.mk hc0_0
 clear hr0_0 hc0_0
 have HB := Z (Below.refl w.heap.size w)
 have H : ((impl_hasBlocks.f l0_0 (([a1] : List Int))).bind fun t127 => (if t127 = true then (if 0 ≤ (wrap64 (a1 * 64)) then (if (wrap64 (a1 * 64)) ≤ (wrap64 ((wrap64 (a1 + 1)) * 64)) then (if (wrap64 ((wrap64 (a1 + 1)) * 64)) ≤ (l0_0.length : Int) then ((slices_Clone_uint32_uint32.f ((l0_0.take ((wrap64 ((wrap64 (a1 + 1)) * 64)) : Int).toNat).drop ((wrap64 (a1 * 64)) : Int).toNat)).bind fun t129 => (some (t129, true))) else (none)) else (none)) else (none)) else (some (([] : List Int), false)))) = some (r1, r2) := h
 clear h
 obtain ⟨y124, hy124⟩ : ∃ y_ : List Int, y_ = (([a1] : List Int)) := ⟨_, rfl⟩
 replace H : ((impl_hasBlocks.f l0_0 y124).bind fun t127 => (if t127 = true then (if 0 ≤ (wrap64 (a1 * 64)) then (if (wrap64 (a1 * 64)) ≤ (wrap64 ((wrap64 (a1 + 1)) * 64)) then (if (wrap64 ((wrap64 (a1 + 1)) * 64)) ≤ (l0_0.length : Int) then ((slices_Clone_uint32_uint32.f ((l0_0.take ((wrap64 ((wrap64 (a1 + 1)) * 64)) : Int).toNat).drop ((wrap64 (a1 * 64)) : Int).toNat)).bind fun t129 => (some (t129, true))) else (none)) else (none)) else (none)) else (some (([] : List Int), false)))) = some (r1, r2) := by first | (rw [hy124]; with_reducible exact H) | (have H2_ := (Option.bind_some _ _).symm.trans H; rw [hy124]; with_reducible exact H2_) | (have H2_ := (Option.bind_some _ _).symm.trans H; with_reducible exact H2_) | with_reducible exact H | (rw [hy124]; exact H) | exact H
 have Ny124 := Aside0.mk hy124
 clear hy124
 replace H := Option.bind_eq_some_iff.mp H
 obtain ⟨t127, A30, H⟩ := H
 replace H : (if t127 = true then (if 0 ≤ (wrap64 (a1 * 64)) then (if (wrap64 (a1 * 64)) ≤ (wrap64 ((wrap64 (a1 + 1)) * 64)) then (if (wrap64 ((wrap64 (a1 + 1)) * 64)) ≤ (l0_0.length : Int) then ((slices_Clone_uint32_uint32.f ((l0_0.take ((wrap64 ((wrap64 (a1 + 1)) * 64)) : Int).toNat).drop ((wrap64 (a1 * 64)) : Int).toNat)).bind fun t129 => (some (t129, true))) else (none)) else (none)) else (none)) else (some (([] : List Int), false))) = some (r1, r2) := H
 have A3 := Aside0.mk A30
 clear A30
 by_cases c4 : t127 = true
 ·subst c4
  have H1 : (if 0 ≤ (wrap64 (a1 * 64)) then (if (wrap64 (a1 * 64)) ≤ (wrap64 ((wrap64 (a1 + 1)) * 64)) then (if (wrap64 ((wrap64 (a1 + 1)) * 64)) ≤ (l0_0.length : Int) then ((slices_Clone_uint32_uint32.f ((l0_0.take ((wrap64 ((wrap64 (a1 + 1)) * 64)) : Int).toNat).drop ((wrap64 (a1 * 64)) : Int).toNat)).bind fun t129 => (some (t129, true))) else (none)) else (none)) else (none)) = some (r1, r2) := Z10
  clear H
  have H := H1
  clear H1
  obtain ⟨ji5, hji5⟩ : ∃ j_ : Int, (wrap64 (a1 * 64)) = j_ := ⟨_, rfl⟩
  replace H : (if 0 ≤ (ji5) then (if (ji5) ≤ (wrap64 ((wrap64 (a1 + 1)) * 64)) then (if (wrap64 ((wrap64 (a1 + 1)) * 64)) ≤ (l0_0.length : Int) then ((slices_Clone_uint32_uint32.f ((l0_0.take ((wrap64 ((wrap64 (a1 + 1)) * 64)) : Int).toNat).drop ((ji5) : Int).toNat)).bind fun t129 => (some (t129, true))) else (none)) else (none)) else (none)) = some (r1, r2) := by first | (rw [hji5] at H; exact H) | (simp only [hji5] at H ⊢; exact H)
  (try rw [hji5] at A3)
  have hji5w : (IntKind.i64.wrap (a1 * 64)) = ji5 := (i64_w _).trans hji5
  by_cases c6 : 0 ≤ (ji5)
  ·rw [if_pos c6] at H
   have c6b0 := eq_true c6
   have c6b1 : decide (0 ≤ (ji5)) = true := decide_eq_true c6
   clear c6
   by_cases c7 : (ji5) ≤ (wrap64 ((wrap64 (a1 + 1)) * 64))
   ·rw [if_pos c7] at H
    have c7b0 := eq_true c7
    have c7b1 : decide ((ji5) ≤ (wrap64 ((wrap64 (a1 + 1)) * 64))) = true := decide_eq_true c7
    by_cases c8 : (wrap64 ((wrap64 (a1 + 1)) * 64)) ≤ (l0_0.length : Int)
    ·rw [if_pos c8] at H
     have c8b0 := eq_true c8
     have c8b1 : decide ((wrap64 ((wrap64 (a1 + 1)) * 64)) ≤ (l0_0.length : Int)) = true := decide_eq_true c8
     replace H := Option.bind_eq_some_iff.mp H
     obtain ⟨t129, A90, H⟩ := H
     replace H : (some (t129, true)) = some (r1, r2) := H
     have A9 := Aside0.mk A90
     clear A90
     simp only [Option.some.injEq, Prod.mk.injEq] at H
     obtain ⟨rfl, rfl⟩ := H
     go_enter Try.func41, Try.ntmps41
     go_wp2_with (first | ((with_reducible refine gate_dst (N := 2) rfl ?_); refine box_event (by rfl) (N := 2) (by rfl) (cs := #[.slice A0_0 l0_0.length c0_0]) (t := 34) Z4 ?_; intro gb123 hg w10 hbox hb; have BK123 := Z (hbox); have GW123 := Z ((Z54 : w.heap.size ≤ gb123)); have GE123 := Z ((Z54 : w.heap.size ≤ gb123)); replace HB := Z (below_step Z33 hb); clear hb hbox hg; have hcz11_0 : w10.cell? ⟨gb123, 0, none⟩ = some (.slice A0_0 l0_0.length c0_0) := (blk_cell BK123.out 0).trans rfl; have hfz11_0 := blk_frozen BK123.out 0) | ((with_reducible refine gate_dst (N := 8) rfl ?_); refine Kd.R_lit (Kd.int .i64) _ 3 (by rfl) (N := 8) (by rfl) (xs := ([a1] : List Int)) (inner := [.int .i64 a1]) (ok := fun _ => True) (okp := fun _ => True) Z4 (Reps.one (show Kd.M (Kd.int .i64) _ _ _ a1 [.int .i64 a1] from rfl) (Reps.none _ _)) (fun _ hk => hk) trivial (Below.refl _ _) (Nat.le_refl _) (by simp) ?_; intro v125 w12 ho13 hb hg_ hnew_; clear hg_ hnew_; (first | rw [← Ny124.out] at ho13 | (simp only [Int.reduceToNat] at ho13; rw [← Ny124.out] at ho13)); have HO126 := Z (Kd.R_lower ho13 (below_size Z33)); replace BK123 := Z (blk_below (g := gb123) (o := .cells #[.slice A0_0 l0_0.length c0_0] 34 (0, 0)) (Z11 BK123) hb); replace HB := Z (below_step Z33 hb); clear hb ho13; obtain ⟨Ao14, co14, eo14⟩ := Kd.R_slice HO126.out; subst eo14) | ((with_reducible refine gate_callee (f := 74) rfl ?_); refine goesL_ (some 9) rfl rfl Try.func74 Z9 rfl #[.agg #[.slice A0_0 l0_0.length c0_0], .slice Ao14 y124.length co14] rfl Z12 ?_; (with_reducible refine (impl_hasBlocks.calls _ _ l0_0 _ _ y124 true _ ?side1 ?side2 ?side3 ?side4 A3.out).mono ?_); (case side1 => exact (Z6 HR0_0)); (case side2 => exact HC0_0.out); (case side3 => exact (Z13 HO126)); (case side4 => exact (Kd.R_reads' HO126.out).2.1); rintro e w15 ⟨rfl, hb⟩; refine ⟨_, rfl, ?_⟩; replace HO126 := Z (Kd.R_below (Z7 HO126) hb); replace BK123 := Z (blk_below (g := gb123) (o := .cells #[.slice A0_0 l0_0.length c0_0] 34 (0, 0)) (Z11 BK123) hb); replace HB := Z (below_step Z33 hb); (try clear hb); (try clear hb2); (try clear hk); (try clear hi); have hcz16_0 : w15.cell? ⟨gb123, 0, none⟩ = some (.slice A0_0 l0_0.length c0_0) := (blk_cell BK123.out 0).trans rfl; have hfz16_0 := blk_frozen BK123.out 0; obtain ⟨i017, hi017, _, hsz17, _⟩ := info_parts info47; obtain ⟨A17, hcut17, hA17, hC17⟩ := print_mid_of (P := Try.prog) (Value.int .u32) 0 24 47 .i64 .i64 Try.underlying24 hi017 hsz17 A0_0 c0_0 l0_0 (ji5) (wrap64 ((wrap64 (a1 + 1)) * 64)) (of_decide_eq_true Z2) (by first | omega | exact of_decide_eq_true Z2) (of_decide_eq_true Z2) HC0_0.out; have HR128 := Z (Kd.C_of_reads (h1 := fun _ => rfl) (hA17 _ (Kd.reads_of_C HR0_0.out))); have HC128 := Aside0.mk hC17; clear hA17 hC17 hi017 hsz17) | ((with_reducible refine gate_callee (f := 75) rfl ?_); refine goesL_ (some 19) rfl rfl Try.func75 Z9 rfl #[.slice A17 ((l0_0.take ((wrap64 ((wrap64 (a1 + 1)) * 64)) : Int).toNat).drop ((ji5) : Int).toNat).length (c0_0 - (ji5).toNat)] rfl (by (try simp only [List.map_toArray, List.map_cons, List.map_nil]); first | done | (rw [show ((l0_0.take ((wrap64 ((wrap64 (a1 + 1)) * 64)) : Int).toNat).drop ((ji5) : Int).toNat).length = ((wrap64 ((wrap64 (a1 + 1)) * 64)).toNat - (ji5).toNat) from (by rw [List.length_drop, List.length_take]; have h_ : ((wrap64 ((wrap64 (a1 + 1)) * 64)) : Int) ≤ (l0_0.length : Int) := of_decide_eq_true Z2; omega)] <;> rfl) | (simp only [hji5]; rfl) | rfl | (simp only [List.length_drop, List.length_take]; rfl)) ?_; (with_reducible refine (slices_Clone_uint32_uint32.calls _ _ ((l0_0.take ((wrap64 ((wrap64 (a1 + 1)) * 64)) : Int).toNat).drop ((ji5) : Int).toNat) t129 _ ?side1 ?side2 A9.out).mono ?_); (case side1 => exact (Z6 HR128)); (case side2 => exact HC128.out); rintro e w18 ⟨v130, rfl, ho0, hb⟩; refine ⟨_, rfl, ?_⟩; replace HO126 := Z (Kd.R_below (Z7 HO126) hb); have HO131 := Z (Kd.R_lower ho0 (below_size Z33)); replace BK123 := Z (blk_below (g := gb123) (o := .cells #[.slice A0_0 l0_0.length c0_0] 34 (0, 0)) (Z11 BK123) hb); replace HB := Z (below_step Z33 hb); (try clear hb); (try clear hb2); (try clear hk); (try clear hi); (try clear ho0)))
     go_ret2
     exact ⟨_, by first | rfl | (simp [errW_none, errW_some] <;> rfl) | (simp only [← hji5]; first | rfl | (simp [errW_none, errW_some] <;> rfl)) | (simp [*, errW_none, errW_some] <;> rfl), (Z7 HO131), Z33⟩
    ·rw [if_neg c8] at H
     exact absurd H (by simp)
   ·rw [if_neg c7] at H
    exact absurd H (by simp)
  ·rw [if_neg c6] at H
   exact absurd H (by simp)
 ·replace c4 := Bool.eq_false_iff.mpr c4
  subst c4
  have H1 : (some (([] : List Int), false)) = some (r1, r2) := by rw [if_neg (show ¬ (false = true) by decide)] at H; exact H
  clear H
  have H := H1
  clear H1
  simp only [Option.some.injEq, Prod.mk.injEq] at H
  obtain ⟨rfl, rfl⟩ := H
  go_enter Try.func41, Try.ntmps41
  go_wp2_with (first | ((with_reducible refine gate_dst (N := 2) rfl ?_); refine box_event (by rfl) (N := 2) (by rfl) (cs := #[.slice A0_0 l0_0.length c0_0]) (t := 34) Z4 ?_; intro gb123 hg w19 hbox hb; have BK123 := Z (hbox); have GW123 := Z ((Z54 : w.heap.size ≤ gb123)); have GE123 := Z ((Z54 : w.heap.size ≤ gb123)); replace HB := Z (below_step Z33 hb); clear hb hbox hg; have hcz20_0 : w19.cell? ⟨gb123, 0, none⟩ = some (.slice A0_0 l0_0.length c0_0) := (blk_cell BK123.out 0).trans rfl; have hfz20_0 := blk_frozen BK123.out 0) | ((with_reducible refine gate_dst (N := 8) rfl ?_); refine Kd.R_lit (Kd.int .i64) _ 3 (by rfl) (N := 8) (by rfl) (xs := ([a1] : List Int)) (inner := [.int .i64 a1]) (ok := fun _ => True) (okp := fun _ => True) Z4 (Reps.one (show Kd.M (Kd.int .i64) _ _ _ a1 [.int .i64 a1] from rfl) (Reps.none _ _)) (fun _ hk => hk) trivial (Below.refl _ _) (Nat.le_refl _) (by simp) ?_; intro v125 w21 ho22 hb hg_ hnew_; clear hg_ hnew_; (first | rw [← Ny124.out] at ho22 | (simp only [Int.reduceToNat] at ho22; rw [← Ny124.out] at ho22)); have HO126 := Z (Kd.R_lower ho22 (below_size Z33)); replace BK123 := Z (blk_below (g := gb123) (o := .cells #[.slice A0_0 l0_0.length c0_0] 34 (0, 0)) (Z11 BK123) hb); replace HB := Z (below_step Z33 hb); clear hb ho22; obtain ⟨Ao23, co23, eo23⟩ := Kd.R_slice HO126.out; subst eo23) | ((with_reducible refine gate_callee (f := 74) rfl ?_); refine goesL_ (some 9) rfl rfl Try.func74 Z9 rfl #[.agg #[.slice A0_0 l0_0.length c0_0], .slice Ao23 y124.length co23] rfl Z12 ?_; (with_reducible refine (impl_hasBlocks.calls _ _ l0_0 _ _ y124 false _ ?side1 ?side2 ?side3 ?side4 A3.out).mono ?_); (case side1 => exact (Z6 HR0_0)); (case side2 => exact HC0_0.out); (case side3 => exact (Z13 HO126)); (case side4 => exact (Kd.R_reads' HO126.out).2.1); rintro e w24 ⟨rfl, hb⟩; refine ⟨_, rfl, ?_⟩; replace HO126 := Z (Kd.R_below (Z7 HO126) hb); replace BK123 := Z (blk_below (g := gb123) (o := .cells #[.slice A0_0 l0_0.length c0_0] 34 (0, 0)) (Z11 BK123) hb); replace HB := Z (below_step Z33 hb); (try clear hb); (try clear hb2); (try clear hk); (try clear hi)))
  go_ret2
  exact ⟨_, Z8, Z15, Z33⟩

/-! ### impl_CopyBlock: function 32 -/
def impl_CopyBlock.f (l0_0 : List Int) (a1 : Int) (a2 : Int) : Option (List Int × Bool) := (impl_BlockOf.f l0_0 a1).bind fun bt134 => (if bt134.2 = true then ((impl_PutBlock.f l0_0 a2 bt134.1).bind fun bt138 => (some (bt138.1, bt138.2))) else (some (([] : List Int), false)))
set_option maxHeartbeats 8000000 in
set_option maxRecDepth 100000 in
theorem impl_CopyBlock.calls (A0_0 : Option Addr) (c0_0 : Nat) (l0_0 : List Int) (a1 : Int) (a2 : Int) (r1 : List Int) (r2 : Bool) (w : World) (hr0_0 : Kd.C (Kd.int .u32) w A0_0 l0_0.length l0_0) (hc0_0 : l0_0.length ≤ c0_0) (h : impl_CopyBlock.f l0_0 a1 a2 = some (r1, r2)) :
  Calls Try.prog 32 #[.agg #[.slice A0_0 l0_0.length c0_0], .int .i64 a1, .int .i64 a2] w fun e w' => ∃ v0_ : Value, e = .returned (.tuple #[.agg #[v0_], .bool r2]) ∧ Kd.R (Kd.int .u32) 47 w' w.heap.size (fun _ => True) v0_ r1 ∧ Below w.heap.size w w' := by
 have hu34 := Try.underlying34
 have HR0_0 := Aside0.mk hr0_0
 have HC0_0 := Aside0.mk hc0_0
 clear hr0_0 hc0_0
 have HB := Z (Below.refl w.heap.size w)
 have H : ((impl_BlockOf.f l0_0 a1).bind fun bt134 => (if bt134.2 = true then ((impl_PutBlock.f l0_0 a2 bt134.1).bind fun bt138 => (some (bt138.1, bt138.2))) else (some (([] : List Int), false)))) = some (r1, r2) := h
 clear h
 replace H := Option.bind_eq_some_iff.mp H
 obtain ⟨⟨t134, t137⟩, A40, H⟩ := H
 replace H : (if t137 = true then ((impl_PutBlock.f l0_0 a2 t134).bind fun bt138 => (some (bt138.1, bt138.2))) else (some (([] : List Int), false))) = some (r1, r2) := H
 have A4 := Aside0.mk A40
 clear A40
 by_cases c5 : t137 = true
 ·subst c5
  have H1 : ((impl_PutBlock.f l0_0 a2 t134).bind fun bt138 => (some (bt138.1, bt138.2))) = some (r1, r2) := Z10
  clear H
  have H := H1
  clear H1
  replace H := Option.bind_eq_some_iff.mp H
  obtain ⟨⟨t138, t141⟩, A60, H⟩ := H
  replace H : (some (t138, t141)) = some (r1, r2) := H
  have A6 := Aside0.mk A60
  clear A60
  simp only [Option.some.injEq, Prod.mk.injEq] at H
  obtain ⟨rfl, rfl⟩ := H
  go_enter Try.func32, Try.ntmps32
  go_wp2_with (first | ((with_reducible refine gate_dst (N := 3) rfl ?_); refine box_event (by rfl) (N := 3) (by rfl) (cs := #[.slice A0_0 l0_0.length c0_0]) (t := 34) Z4 ?_; intro gb132 hg w7 hbox hb; have BK132 := Z (hbox); have GW132 := Z ((Z54 : w.heap.size ≤ gb132)); have GE132 := Z ((Z54 : w.heap.size ≤ gb132)); replace HB := Z (below_step Z33 hb); clear hb hbox hg) | ((with_reducible refine gate_dst (N := 6) rfl ?_); refine box_event (by rfl) (N := 6) (by rfl) (cs := #[.slice none 0 0]) (t := 34) Z4 ?_; intro gb133 hg w8 hbox hb; have BK133 := Z (hbox); have GW133 := Z ((Z54 : w.heap.size ≤ gb133)); have GE133 := Z ((Z54 : w.heap.size ≤ gb133)); replace HB := Z (below_step Z33 hb); have NB132_133 := Z ((Z36 : gb132 ≠ gb133)); have NB133_132 := Z ((Z37 : gb133 ≠ gb132)); replace BK132 := Z (blk_below (g := gb132) (o := .cells #[.slice A0_0 l0_0.length c0_0] 34 (0, 0)) (Z11 BK132) hb); clear hb hbox hg; have hnb9 := NB132_133.out; have hnc9 := NB133_132.out; have hcz10_0 : w8.cell? ⟨gb132, 0, none⟩ = some (.slice A0_0 l0_0.length c0_0) := (blk_cell BK132.out 0).trans rfl; have hfz10_0 := blk_frozen BK132.out 0) | ((with_reducible refine gate_callee (f := 41) rfl ?_); refine goesL_ (some 13) rfl rfl Try.func41 Z9 rfl #[.agg #[.slice A0_0 l0_0.length c0_0], .int .i64 a1] rfl Z12 ?_; (with_reducible refine (impl_BlockOf.calls _ _ l0_0 a1 t134 true _ ?side1 ?side2 A4.out).mono ?_); (case side1 => exact (Z6 HR0_0)); (case side2 => exact HC0_0.out); rintro e w11 ⟨v135, rfl, ho0, hb⟩; refine ⟨_, rfl, ?_⟩; have HO136 := Z (Kd.R_lower ho0 (below_size Z33)); replace BK132 := Z (blk_below (g := gb132) (o := .cells #[.slice A0_0 l0_0.length c0_0] 34 (0, 0)) (Z11 BK132) hb); replace BK133 := Z (blk_below (g := gb133) (o := .cells #[.slice none 0 0] 34 (0, 0)) (Z11 BK133) hb); replace HB := Z (below_step Z33 hb); (try clear hb); (try clear hb2); (try clear hk); (try clear hi); (try clear ho0); have hcz12_0 : w11.cell? ⟨gb132, 0, none⟩ = some (.slice A0_0 l0_0.length c0_0) := (blk_cell BK132.out 0).trans rfl; have hfz12_0 := blk_frozen BK132.out 0; obtain ⟨Ao13, co13, eo13⟩ := Kd.R_slice HO136.out; subst eo13) | ((with_reducible refine gate_callee (f := 39) rfl ?_); refine goesL_ (some 22) rfl rfl Try.func39 Z9 rfl #[.agg #[.slice A0_0 l0_0.length c0_0], .int .i64 a2, .slice Ao13 t134.length co13] rfl Z12 ?_; (with_reducible refine (impl_PutBlock.calls _ _ l0_0 a2 _ _ t134 t138 t141 _ ?side1 ?side2 ?side3 ?side4 A6.out).mono ?_); (case side1 => exact (Z6 HR0_0)); (case side2 => exact HC0_0.out); (case side3 => exact (Z13 HO136)); (case side4 => exact (Kd.R_reads' HO136.out).2.1); rintro e w14 ⟨v139, rfl, ho0, hb⟩; refine ⟨_, rfl, ?_⟩; have HO140 := Z (Kd.R_lower (Kd.R_new' ho0 (Kd.R_lt (Z7 HO136))) (below_size Z33)); replace HO136 := Z (Kd.R_elder' (Z7 HO136) (Kd.R_base ho0) hb); replace BK132 := Z (blk_below (g := gb132) (o := .cells #[.slice A0_0 l0_0.length c0_0] 34 (0, 0)) (Z11 BK132) hb); replace BK133 := Z (blk_below (g := gb133) (o := .cells #[.slice none 0 0] 34 (0, 0)) (Z11 BK133) hb); replace HB := Z (below_step Z33 hb); (try clear hb); (try clear hb2); (try clear hk); (try clear hi); (try clear ho0); obtain ⟨Ao15, co15, eo15⟩ := Kd.R_slice HO140.out; subst eo15; have hcz16_0 : w14.cell? ⟨gb133, 0, none⟩ = some (.slice none 0 0) := (blk_cell BK133.out 0).trans rfl; have hfz16_0 := blk_frozen BK133.out 0))
  refine bodyPost_ret (results_ct rfl _ _ gb133 34 #[.slice Ao15 t138.length co15] (0, 0) _ rfl (Z14 BK133) Try.underlying34 rfl Z9) rfl ?_
  exact ⟨_, Z8, by (with_reducible repeat (first | apply Kd.R_alloc | apply Kd.R_drewN | apply Kd.R_drew)); exact Kd.R_mono (Kd.R_far (p := ⟨gb133, 0, none⟩) (Kd.R_types HO140.out BK133.out (by decide)) (fun _ hk => hk.2) (.slice Ao15 t138.length co15)) (fun _ hk => trivial), Z33⟩
 ·replace c5 := Bool.eq_false_iff.mpr c5
  subst c5
  have H1 : (some (([] : List Int), false)) = some (r1, r2) := by rw [if_neg (show ¬ (false = true) by decide)] at H; exact H
  clear H
  have H := H1
  clear H1
  simp only [Option.some.injEq, Prod.mk.injEq] at H
  obtain ⟨rfl, rfl⟩ := H
  go_enter Try.func32, Try.ntmps32
  go_wp2_with (first | ((with_reducible refine gate_dst (N := 3) rfl ?_); refine box_event (by rfl) (N := 3) (by rfl) (cs := #[.slice A0_0 l0_0.length c0_0]) (t := 34) Z4 ?_; intro gb132 hg w17 hbox hb; have BK132 := Z (hbox); have GW132 := Z ((Z54 : w.heap.size ≤ gb132)); have GE132 := Z ((Z54 : w.heap.size ≤ gb132)); replace HB := Z (below_step Z33 hb); clear hb hbox hg) | ((with_reducible refine gate_dst (N := 6) rfl ?_); refine box_event (by rfl) (N := 6) (by rfl) (cs := #[.slice none 0 0]) (t := 34) Z4 ?_; intro gb133 hg w18 hbox hb; have BK133 := Z (hbox); have GW133 := Z ((Z54 : w.heap.size ≤ gb133)); have GE133 := Z ((Z54 : w.heap.size ≤ gb133)); replace HB := Z (below_step Z33 hb); have NB132_133 := Z ((Z36 : gb132 ≠ gb133)); have NB133_132 := Z ((Z37 : gb133 ≠ gb132)); replace BK132 := Z (blk_below (g := gb132) (o := .cells #[.slice A0_0 l0_0.length c0_0] 34 (0, 0)) (Z11 BK132) hb); clear hb hbox hg; have hnb19 := NB132_133.out; have hnc19 := NB133_132.out; have hcz20_0 : w18.cell? ⟨gb132, 0, none⟩ = some (.slice A0_0 l0_0.length c0_0) := (blk_cell BK132.out 0).trans rfl; have hfz20_0 := blk_frozen BK132.out 0) | ((with_reducible refine gate_callee (f := 41) rfl ?_); refine goesL_ (some 13) rfl rfl Try.func41 Z9 rfl #[.agg #[.slice A0_0 l0_0.length c0_0], .int .i64 a1] rfl Z12 ?_; (with_reducible refine (impl_BlockOf.calls _ _ l0_0 a1 t134 false _ ?side1 ?side2 A4.out).mono ?_); (case side1 => exact (Z6 HR0_0)); (case side2 => exact HC0_0.out); rintro e w21 ⟨v135, rfl, ho0, hb⟩; refine ⟨_, rfl, ?_⟩; have HO136 := Z (Kd.R_lower ho0 (below_size Z33)); replace BK132 := Z (blk_below (g := gb132) (o := .cells #[.slice A0_0 l0_0.length c0_0] 34 (0, 0)) (Z11 BK132) hb); replace BK133 := Z (blk_below (g := gb133) (o := .cells #[.slice none 0 0] 34 (0, 0)) (Z11 BK133) hb); replace HB := Z (below_step Z33 hb); (try clear hb); (try clear hb2); (try clear hk); (try clear hi); (try clear ho0); have hcz22_0 : w21.cell? ⟨gb133, 0, none⟩ = some (.slice none 0 0) := (blk_cell BK133.out 0).trans rfl; have hfz22_0 := blk_frozen BK133.out 0))
  refine bodyPost_ret (results_ct rfl _ _ gb133 34 #[.slice none 0 0] (0, 0) _ rfl (Z14 BK133) Try.underlying34 rfl Z9) rfl ?_
  exact ⟨_, Z8, Z15, Z33⟩

end Go.Proofs.Ytkkiibjnpkjijaa.QFnBlocks
