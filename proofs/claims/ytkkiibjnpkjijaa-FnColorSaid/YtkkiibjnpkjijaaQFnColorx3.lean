/-
Plain functions for the Go functions that a law reaches, each with a proof that the translation's call comes to just that; no conditions beyond those written in each.
-/
import Derived.Test.YtkkiibjnpkjijaaSFnColor
import Derived.Test.YtkkiibjnpkjijaaQFnColorx2
namespace Go.Proofs.Ytkkiibjnpkjijaa.QFnColor
open Go.RowKit Go.Proofs.YtkkiibjnpkjijaaW.PrintWords Go.Proofs.YtkkiibjnpkjijaaW.PrintLast Go.Proofs.YtkkiibjnpkjijaaW.PrintMore
attribute [local go_sem] max2_int min2_int max_two min_two max_three min_three max_four min_four   -- for this text's walks alone
set_option linter.unusedVariables false
set_option linter.unusedSimpArgs false

/-! ### spec_l04Word: function 109 -/
def spec_l04Word.l0 : Nat → Int → List Int → Int → Option (List Int)
 | 0, _, _, _ => none
 | k + 1, x0, x5, x6 => if x6 < (x5.length : Int) then (if 0 ≤ x6 then ((some (x5.set (x6 : Int).toNat (((rd x5 x6) * 16) % 4294967296) : List Int)).bind fun y142 => (if x6 = 0 then (spec_l04Word.l0 k x0 (y142.set (x6 : Int).toNat (((rd y142 x6) + x0) % 4294967296)) (wrap64 (x6 + 1))) else (spec_l04Word.l0 k x0 y142 (wrap64 (x6 + 1))))) else (none)) else (some x5)
def spec_l04Word.f (k : Nat) (a0 : Int) (a1 : ByteArray) : Option (List Int) := (spec_Pack.f k a1).bind fun t138 => (spec_l04Word.l0 k a0 t138 0)
theorem spec_l04Word.mono_l : ∀ k, (∀ y0 y1 y2, LeO (spec_l04Word.l0 k y0 y1 y2) (spec_l04Word.l0 (k + 1) y0 y1 y2))
 | 0 => fun _ _ _ r h => by simp [spec_l04Word.l0] at h
 | k + 1 => by
  have ih0 := spec_l04Word.mono_l k
  ·intro y0 y1 y2
   unfold spec_l04Word.l0
   repeat' first
   | (with_reducible exact ih0 _ _ _)
   | (with_reducible exact spec_Pack.mono _ _)
   | (with_reducible exact LeO.refl _)
   | (with_reducible exact LeO.none _)
   | (with_reducible refine LeO.ite ?_ ?_)
   | (with_reducible refine LeO.bind ?_ (fun _ => ?_))
   | exact ih0 _ _ _
   | exact spec_Pack.mono _ _
   | exact LeO.none _
   | refine LeO.ite ?_ ?_
   | refine LeO.bind ?_ (fun _ => ?_)
theorem spec_l04Word.mono : ∀ a0 a1 k, LeO (spec_l04Word.f k a0 a1) (spec_l04Word.f (k + 1) a0 a1) := by
 intro a0 a1 k
 have ih0 := spec_l04Word.mono_l k
 unfold spec_l04Word.f
 repeat' first
   | (with_reducible exact ih0 _ _ _)
   | (with_reducible exact spec_Pack.mono _ _)
   | (with_reducible exact LeO.refl _)
   | (with_reducible exact LeO.none _)
   | (with_reducible refine LeO.ite ?_ ?_)
   | (with_reducible refine LeO.bind ?_ (fun _ => ?_))
   | exact ih0 _ _ _
   | exact spec_Pack.mono _ _
   | exact LeO.none _
   | refine LeO.ite ?_ ?_
   | refine LeO.bind ?_ (fun _ => ?_)
set_option maxHeartbeats 8000000 in
set_option maxRecDepth 100000 in
theorem spec_l04Word.calls (k : Nat) (a0 : Int) (a1 : ByteArray) (r : List Int) (w : World) (h : spec_l04Word.f k a0 a1 = some r) :
  Calls Try.prog 109 #[.int .u32 a0, .string a1] w fun e w' => ∃ v0_ : Value, e = .returned (v0_) ∧ Kd.R (Kd.int .u32) 47 w' w.heap.size (fun _ => True) v0_ r ∧ Below w.heap.size w w' := by
 have HB := Z (Below.refl w.heap.size w)
 have H : ((spec_Pack.f k a1).bind fun t138 => (spec_l04Word.l0 k a0 t138 0)) = some r := h
 clear h
 replace H := Option.bind_eq_some_iff.mp H
 obtain ⟨t138, A30, H⟩ := H
 replace H : (spec_l04Word.l0 k a0 t138 0) = some r := H
 have A3 := Aside0.mk A30
 clear A30
 have H' := Aside0.mk H
 clear H
 go_enter Try.func109, Try.ntmps109
 go_wp2_with (first | ((with_reducible refine gate_callee (f := 116) rfl ?_); refine goesL_ (some 8) rfl rfl Try.func116 Z0 rfl #[.string a1] rfl Z9 ?_; (with_reducible refine (spec_Pack.calls k a1 t138 _ A3.out).mono ?_); rintro e w4 ⟨v139, rfl, ho0, hb⟩; refine ⟨_, rfl, ?_⟩; have HO140 := Z (Kd.R_lower ho0 (below_size Z47)); replace HB := Z (below_step Z47 hb); (try clear hb); (try clear hb2); (try clear hk); (try clear hi); (try clear ho0)))
 go_loopg [6] k (fun kq v6 w' => ∃ (x5_1 : List Int) (x6_1 : Int), v6 = .int .i64 x6_1 ∧ Aside0 (spec_l04Word.l0 kq a0 x5_1 x6_1 = some r) ∧ Aside0 (kq ≤ k) ∧ Aside0 (Kd.R (Kd.int .u32) 47 w' w.heap.size (fun _ => True) v139 x5_1) ∧ Aside0 (Below w.heap.size w w'))
 case atStart => exact ⟨(t138), (0), Z2, H', ⟨Nat.le_refl _⟩, ⟨(Z8 HO140)⟩, ⟨Z47⟩⟩
 case round =>
  clear H'
  try clear c1
  try clear p2
  obtain ⟨x5_1, x6_1, rfl, HA, HK1, HO_5, HB⟩ := hrel
  cases gk with
  | zero => exact absurd HA.out (by simp [spec_l04Word.l0])
  | succ k1 =>
   have H := HA.out
   clear HA
   simp only [spec_l04Word.l0] at H
   by_cases c5 : x6_1 < (x5_1.length : Int)
   ·rw [if_pos c5] at H
    have c5b0 : decide (x6_1 < (x5_1.length : Int)) = true := decide_eq_true c5
    clear c5
    by_cases c6 : 0 ≤ x6_1
    ·rw [if_pos c6] at H
     have c6b0 : decide (0 ≤ x6_1) = true := decide_eq_true c6
     clear c6
     obtain ⟨y142, hy142⟩ : ∃ y_ : List Int, y_ = (x5_1.set (x6_1 : Int).toNat (((rd x5_1 x6_1) * 16) % 4294967296)) := ⟨_, rfl⟩
     replace H : (if x6_1 = 0 then (spec_l04Word.l0 k1 a0 (y142.set (x6_1 : Int).toNat (((rd y142 x6_1) + a0) % 4294967296)) (wrap64 (x6_1 + 1))) else (spec_l04Word.l0 k1 a0 y142 (wrap64 (x6_1 + 1)))) = some r := by first | (rw [hy142]; with_reducible exact H) | (have H2_ := (Option.bind_some _ _).symm.trans H; rw [hy142]; with_reducible exact H2_) | (have H2_ := (Option.bind_some _ _).symm.trans H; with_reducible exact H2_) | with_reducible exact H | (rw [hy142]; exact H) | exact H
     have Ny142 := Aside0.mk hy142
     clear hy142
     by_cases c8 : x6_1 = 0
     ·rw [if_pos c8] at H
      have c8b0 : (x6_1 == 0) = true := beq_iff_eq.mpr c8
      have c8b1 : (x6_1 != 0) = false := bne_eq_false_iff_eq.mpr c8
      clear c8
      obtain ⟨y144, hy144⟩ : ∃ y_ : List Int, y_ = (y142.set (x6_1 : Int).toNat (((rd y142 x6_1) + a0) % 4294967296)) := ⟨_, rfl⟩
      replace H : (spec_l04Word.l0 k1 a0 y144 (wrap64 (x6_1 + 1))) = some r := by first | (rw [hy144]; with_reducible exact H) | (have H2_ := (Option.bind_some _ _).symm.trans H; rw [hy144]; with_reducible exact H2_) | (have H2_ := (Option.bind_some _ _).symm.trans H; with_reducible exact H2_) | with_reducible exact H | (rw [hy144]; exact H) | exact H
      have Ny144 := Aside0.mk hy144
      clear hy144
      have H' := Aside0.mk H
      clear H
      obtain ⟨Ao10, co10, eo10⟩ := Kd.R_slice HO_5.out
      subst eo10
      have p141 : 0 ≤ (x6_1 : Int) := of_decide_eq_true Z10
      have q141 : x6_1 < (x5_1.length : Int) := of_decide_eq_true Z10
      obtain ⟨ad141, e141, hx141_0⟩ := Kd.at_int (Kd.R_reads' HO_5.out).2.2 x6_1 p141 q141
      cases e141
      replace p141 := eq_true p141
      replace q141 := eq_true q141
      have p7 : 0 ≤ (x6_1 : Int) := of_decide_eq_true Z10
      have q7 : (x6_1 : Int) < ((x5_1.length : Int) : Int) := of_decide_eq_true Z10
      obtain ⟨go7, co7, eo7, gb7, gl7, cl7, HG7⟩ := Kd.R_form HO_5.out (by omega)
      (first | cases eo7 | (injection eo7 with ea_ en_ ec_; (first | subst ea_ | (injection ea_ with ea_; subst ea_)); subst ec_; clear en_))
      have GB7 := Aside0.mk gb7
      have GG7 := Aside0.mk HG7
      clear gb7 gl7 HG7
      (first | simp only [add_plain] at hx141_0 | skip)
      obtain ⟨hx7_0, hf7_0⟩ := Kd.R_celln 0 HO_5.out (x6_1 : Int) p7 q7
      replace p7 := eq_true p7
      replace q7 := eq_true q7
      have HP11 := Kd.R_putg HO_5.out (x6_1 : Int) (((rd x5_1 x6_1) * 16) % 4294967296)
      go_wp2_with (first | ((with_reducible refine gate_store (t := 47) (p := 22) rfl ?_); refine store_event (t := 47) (p := 22) (v := ?vo_w12) (w1 := (wr.setCell ⟨go7, (x6_1 : Int).toNat, none⟩ (.int .u32 (((rd x5_1 x6_1) * 16) % 4294967296)))) (by rfl) (by rfl) (by rfl) Z5 ?_; intro w12 hw; have hg : wr.grownBy w12 (some go7) := (by rw [hw]; exact HP11.2); have hp_ : Kd.R (Kd.int .u32) 47 w12 w.heap.size (fun _ => True) (.slice (some ⟨go7, 0, none⟩) x5_1.length co10) y142 := (by rw [hw, Ny142.out]; exact HP11.1); clear HP11; replace HO_5 := Z (hp_); replace HB := Z ((by rw [hw]; exact below_set (HB.out) GB7.out : Below w.heap.size w w12)); clear hg hw hp_; have p143 : 0 ≤ (x6_1 : Int) := of_decide_eq_true Z10; have q143 : x6_1 < (y142.length : Int) := (by have h_ : (x6_1 : Int) < ((x5_1.length : Int) : Int) := of_decide_eq_true Z10; first | (have e_ := (Kd.R_reads' HO_5.out).1; omega) | simpa only [Ny142.out, List.length_set] using h_); have ql143 : ((x6_1 : Int) < ((x5_1.length : Int) : Int)) = True := eq_true (of_decide_eq_true Z10); obtain ⟨ad143, e143, hx143_0⟩ := Kd.at_int (Kd.R_reads' HO_5.out).2.2 x6_1 p143 q143; obtain rfl : (⟨go7, 0, none⟩ : Addr) = ad143 := (by injection e143); (first | simp only [add_plain] at hx143_0 | simp only [add_at] at hx143_0 | simp only [Addr.add, Nat.zero_add] at hx143_0 | skip); replace p143 := eq_true p143; replace q143 := eq_true q143; have p9 : 0 ≤ (x6_1 : Int) := of_decide_eq_true Z10; have q9 : (x6_1 : Int) < ((x5_1.length : Int) : Int) := of_decide_eq_true Z10; obtain ⟨hx9_0, hf9_0⟩ := Kd.R_celln 0 HO_5.out (x6_1 : Int) p9 q9; replace p9 := eq_true p9; replace q9 := eq_true q9; obtain ⟨hy13_, hz13_⟩ := Kd.R_celln 0 HO_5.out (x6_1 : Int) (of_decide_eq_true Z10) (of_decide_eq_true Z10); have HP13 := Kd.R_putg HO_5.out (x6_1 : Int) (((rd y142 x6_1) + a0) % 4294967296)) | ((with_reducible refine gate_store (t := 47) (p := 33) rfl ?_); refine store_event (t := 47) (p := 33) (v := ?vo_w14) (w1 := (w12.setCell ⟨go7, (x6_1 : Int).toNat, none⟩ (.int .u32 (((rd y142 x6_1) + a0) % 4294967296)))) (by rfl) (by rfl) (by rfl) Z5 ?_; intro w14 hw; have hg : w12.grownBy w14 (some go7) := (by rw [hw]; exact HP13.2); have hp_ : Kd.R (Kd.int .u32) 47 w14 w.heap.size (fun _ => True) (.slice (some ⟨go7, 0, none⟩) x5_1.length co10) y144 := (by rw [hw, Ny144.out]; exact HP13.1); clear HP13; replace HO_5 := Z (hp_); replace HB := Z ((by rw [hw]; exact below_set (HB.out) GB7.out : Below w.heap.size w w14)); clear hg hw hp_))
      go_roundg k1
      case measure => have := HK1.out; omega
      case rel => exact ⟨(y144), (wrap64 (x6_1 + 1)), Z2, H', ⟨Z11⟩, ⟨(Z8 HO_5)⟩, ⟨Z47⟩⟩
     ·rw [if_neg c8] at H
      have c8b0 : (x6_1 == 0) = false := beq_eq_false_iff_ne.mpr c8
      have c8b1 : (x6_1 != 0) = true := bne_iff_ne.mpr c8
      have H' := Aside0.mk H
      clear H
      obtain ⟨Ao15, co15, eo15⟩ := Kd.R_slice HO_5.out
      subst eo15
      have p141 : 0 ≤ (x6_1 : Int) := of_decide_eq_true Z10
      have q141 : x6_1 < (x5_1.length : Int) := of_decide_eq_true Z10
      obtain ⟨ad141, e141, hx141_0⟩ := Kd.at_int (Kd.R_reads' HO_5.out).2.2 x6_1 p141 q141
      cases e141
      replace p141 := eq_true p141
      replace q141 := eq_true q141
      have p7 : 0 ≤ (x6_1 : Int) := of_decide_eq_true Z10
      have q7 : (x6_1 : Int) < ((x5_1.length : Int) : Int) := of_decide_eq_true Z10
      obtain ⟨go7, co7, eo7, gb7, gl7, cl7, HG7⟩ := Kd.R_form HO_5.out (by omega)
      (first | cases eo7 | (injection eo7 with ea_ en_ ec_; (first | subst ea_ | (injection ea_ with ea_; subst ea_)); subst ec_; clear en_))
      have GB7 := Aside0.mk gb7
      have GG7 := Aside0.mk HG7
      clear gb7 gl7 HG7
      (first | simp only [add_plain] at hx141_0 | skip)
      obtain ⟨hx7_0, hf7_0⟩ := Kd.R_celln 0 HO_5.out (x6_1 : Int) p7 q7
      replace p7 := eq_true p7
      replace q7 := eq_true q7
      have HP16 := Kd.R_putg HO_5.out (x6_1 : Int) (((rd x5_1 x6_1) * 16) % 4294967296)
      go_wp2_with (first | ((with_reducible refine gate_store (t := 47) (p := 22) rfl ?_); refine store_event (t := 47) (p := 22) (v := ?vo_w17) (w1 := (wr.setCell ⟨go7, (x6_1 : Int).toNat, none⟩ (.int .u32 (((rd x5_1 x6_1) * 16) % 4294967296)))) (by rfl) (by rfl) (by rfl) Z5 ?_; intro w17 hw; have hg : wr.grownBy w17 (some go7) := (by rw [hw]; exact HP16.2); have hp_ : Kd.R (Kd.int .u32) 47 w17 w.heap.size (fun _ => True) (.slice (some ⟨go7, 0, none⟩) x5_1.length co15) y142 := (by rw [hw, Ny142.out]; exact HP16.1); clear HP16; replace HO_5 := Z (hp_); replace HB := Z ((by rw [hw]; exact below_set (HB.out) GB7.out : Below w.heap.size w w17)); clear hg hw hp_))
      go_roundg k1
      case measure => have := HK1.out; omega
      case rel => exact ⟨(y142), (wrap64 (x6_1 + 1)), Z2, H', ⟨Z11⟩, ⟨(Z8 HO_5)⟩, ⟨Z47⟩⟩
    ·rw [if_neg c6] at H
     exact absurd H (by simp)
   ·rw [if_neg c5] at H
    have c5b0 : decide (x6_1 < (x5_1.length : Int)) = false := decide_eq_false c5
    clear c5
    obtain rfl := Option.some.inj H
    obtain ⟨Ao18, co18, eo18⟩ := Kd.R_slice HO_5.out
    subst eo18
    go_wp2
    go_ret
    exact ⟨_, Z7, (Z8 HO_5), Z47⟩

/-! ### spec_l04Tag: function 110 -/
def spec_l04Tag.f (a0 : Int) : Option (Int) := if a0 = 1 then (some 1) else (if a0 = 2 then (some 3) else (if a0 = 3 then (some 4) else (if a0 = 4 then (some 9) else (if a0 = 5 then (some 10) else (if a0 = 6 then (some 11) else (some 0))))))
set_option maxHeartbeats 8000000 in
set_option maxRecDepth 100000 in
theorem spec_l04Tag.calls (a0 : Int) (r : Int) (w : World) (h : spec_l04Tag.f a0 = some r) :
  Calls Try.prog 110 #[.int .i64 a0] w fun e w' => e = .returned (.int .u32 r) ∧ Drawn0 w w' := by
 have H : (if a0 = 1 then (some 1) else (if a0 = 2 then (some 3) else (if a0 = 3 then (some 4) else (if a0 = 4 then (some 9) else (if a0 = 5 then (some 10) else (if a0 = 6 then (some 11) else (some 0))))))) = some r := h
 clear h
 by_cases c2 : a0 = 1
 ·rw [if_pos c2] at H
  have c2b0 : (a0 == 1) = true := beq_iff_eq.mpr c2
  have c2b1 : (a0 != 1) = false := bne_eq_false_iff_eq.mpr c2
  clear c2
  obtain rfl := Option.some.inj H
  go_enter Try.func110, Try.ntmps110
  go_wp2
  go_ret
  exact ⟨Z2, Z3⟩
 ·rw [if_neg c2] at H
  have c2b0 : (a0 == 1) = false := beq_eq_false_iff_ne.mpr c2
  have c2b1 : (a0 != 1) = true := bne_iff_ne.mpr c2
  by_cases c3 : a0 = 2
  ·rw [if_pos c3] at H
   have c3b0 : (a0 == 2) = true := beq_iff_eq.mpr c3
   have c3b1 : (a0 != 2) = false := bne_eq_false_iff_eq.mpr c3
   clear c3
   obtain rfl := Option.some.inj H
   go_enter Try.func110, Try.ntmps110
   go_wp2
   go_ret
   exact ⟨Z2, Z3⟩
  ·rw [if_neg c3] at H
   have c3b0 : (a0 == 2) = false := beq_eq_false_iff_ne.mpr c3
   have c3b1 : (a0 != 2) = true := bne_iff_ne.mpr c3
   by_cases c4 : a0 = 3
   ·rw [if_pos c4] at H
    have c4b0 : (a0 == 3) = true := beq_iff_eq.mpr c4
    have c4b1 : (a0 != 3) = false := bne_eq_false_iff_eq.mpr c4
    clear c4
    obtain rfl := Option.some.inj H
    go_enter Try.func110, Try.ntmps110
    go_wp2
    go_ret
    exact ⟨Z2, Z3⟩
   ·rw [if_neg c4] at H
    have c4b0 : (a0 == 3) = false := beq_eq_false_iff_ne.mpr c4
    have c4b1 : (a0 != 3) = true := bne_iff_ne.mpr c4
    by_cases c5 : a0 = 4
    ·rw [if_pos c5] at H
     have c5b0 : (a0 == 4) = true := beq_iff_eq.mpr c5
     have c5b1 : (a0 != 4) = false := bne_eq_false_iff_eq.mpr c5
     clear c5
     obtain rfl := Option.some.inj H
     go_enter Try.func110, Try.ntmps110
     go_wp2
     go_ret
     exact ⟨Z2, Z3⟩
    ·rw [if_neg c5] at H
     have c5b0 : (a0 == 4) = false := beq_eq_false_iff_ne.mpr c5
     have c5b1 : (a0 != 4) = true := bne_iff_ne.mpr c5
     by_cases c6 : a0 = 5
     ·rw [if_pos c6] at H
      have c6b0 : (a0 == 5) = true := beq_iff_eq.mpr c6
      have c6b1 : (a0 != 5) = false := bne_eq_false_iff_eq.mpr c6
      clear c6
      obtain rfl := Option.some.inj H
      go_enter Try.func110, Try.ntmps110
      go_wp2
      go_ret
      exact ⟨Z2, Z3⟩
     ·rw [if_neg c6] at H
      have c6b0 : (a0 == 5) = false := beq_eq_false_iff_ne.mpr c6
      have c6b1 : (a0 != 5) = true := bne_iff_ne.mpr c6
      by_cases c7 : a0 = 6
      ·rw [if_pos c7] at H
       have c7b0 : (a0 == 6) = true := beq_iff_eq.mpr c7
       have c7b1 : (a0 != 6) = false := bne_eq_false_iff_eq.mpr c7
       clear c7
       obtain rfl := Option.some.inj H
       go_enter Try.func110, Try.ntmps110
       go_wp2
       go_ret
       exact ⟨Z2, Z3⟩
      ·rw [if_neg c7] at H
       have c7b0 : (a0 == 6) = false := beq_eq_false_iff_ne.mpr c7
       have c7b1 : (a0 != 6) = true := bne_iff_ne.mpr c7
       obtain rfl := Option.some.inj H
       go_enter Try.func110, Try.ntmps110
       go_wp2
       go_ret
       exact ⟨Z2, Z3⟩

/-! ### spec_CellsOf: function 83 -/
def spec_CellsOf.j0 : Nat → Bool → Int → ByteArray → Int → Bool → Int → Option (List Int)
 | 0, _, _, _, _, _, _ => none
 | k + 1, x3, x146000, x146001, x146002, x146003, x146004 => if x146000 = 0 then (if x146001.toList = ([] : List UInt8) then (if x146002 = 0 then (if x146003 = true then (some (([] : List Int))) else (some (([x146004] : List Int)))) else (some (([] : List Int)))) else (some (([] : List Int)))) else (if x146000 = 7 then (if x146001.toList = ([] : List UInt8) then (if x146004 = 0 then ((spec_l04Num.f x146002 x146003 8 2).bind fun t158 => (some t158)) else (some (([] : List Int)))) else (some (([] : List Int)))) else (if x146000 = 8 then (if x146001.toList = ([] : List UInt8) then (if x146004 = 0 then ((spec_l04Num.f x146002 x146003 6 5).bind fun t167 => (some t167)) else (some (([] : List Int)))) else (some (([] : List Int)))) else (if x146000 = 9 then ((spec_l04Word.f k 12 x146001).bind fun t176 => (if (t176.length : Int) = 1 then (if x146003 = true then (some (([] : List Int))) else (if x146004 = 0 then (if t176.length < 35184372088832 then (some (t176 ++ [(x146002) % 4294967296])) else (none)) else (some (([] : List Int))))) else (some (([] : List Int))))) else ((spec_l04Tag.f x146000).bind fun t191 => (if t191 > 0 then (if x3 = true then ((spec_l04Word.f k t191 x146001).bind fun t192 => (some t192)) else (some (([] : List Int)))) else (some (([] : List Int))))))))
def spec_CellsOf.f (k : Nat) (a0_0 : Int) (a0_1 : ByteArray) (a0_2 : Int) (a0_3 : Bool) (a0_4 : Int) : Option (List Int) := if a0_2 = 0 then (if a0_3 = true then (spec_CellsOf.j0 k false a0_0 a0_1 a0_2 a0_3 a0_4) else (spec_CellsOf.j0 k (a0_4 == 0) a0_0 a0_1 a0_2 a0_3 a0_4)) else (spec_CellsOf.j0 k false a0_0 a0_1 a0_2 a0_3 a0_4)
theorem spec_CellsOf.mono_l : ∀ k, (∀ y0 y1 y2 y3 y4 y5, LeO (spec_CellsOf.j0 k y0 y1 y2 y3 y4 y5) (spec_CellsOf.j0 (k + 1) y0 y1 y2 y3 y4 y5))
 | 0 => fun _ _ _ _ _ _ r h => by simp [spec_CellsOf.j0] at h
 | k + 1 => by
  have ih0 := spec_CellsOf.mono_l k
  ·intro y0 y1 y2 y3 y4 y5
   unfold spec_CellsOf.j0
   repeat' first
   | (with_reducible exact ih0 _ _ _ _ _ _)
   | (with_reducible exact spec_l04Word.mono _ _ _)
   | (with_reducible exact LeO.refl _)
   | (with_reducible exact LeO.none _)
   | (with_reducible refine LeO.ite ?_ ?_)
   | (with_reducible refine LeO.bind ?_ (fun _ => ?_))
   | exact ih0 _ _ _ _ _ _
   | exact spec_l04Word.mono _ _ _
   | exact LeO.none _
   | refine LeO.ite ?_ ?_
   | refine LeO.bind ?_ (fun _ => ?_)
theorem spec_CellsOf.mono : ∀ a0 a1 a2 a3 a4 k, LeO (spec_CellsOf.f k a0 a1 a2 a3 a4) (spec_CellsOf.f (k + 1) a0 a1 a2 a3 a4) := by
 intro a0 a1 a2 a3 a4 k
 have ih0 := spec_CellsOf.mono_l k
 unfold spec_CellsOf.f
 repeat' first
   | (with_reducible exact ih0 _ _ _ _ _ _)
   | (with_reducible exact spec_l04Word.mono _ _ _)
   | (with_reducible exact LeO.refl _)
   | (with_reducible exact LeO.none _)
   | (with_reducible refine LeO.ite ?_ ?_)
   | (with_reducible refine LeO.bind ?_ (fun _ => ?_))
   | exact ih0 _ _ _ _ _ _
   | exact spec_l04Word.mono _ _ _
   | exact LeO.none _
   | refine LeO.ite ?_ ?_
   | refine LeO.bind ?_ (fun _ => ?_)
set_option maxHeartbeats 8000000 in
set_option maxRecDepth 100000 in
theorem spec_CellsOf.calls (k : Nat) (a0_0 : Int) (a0_1 : ByteArray) (a0_2 : Int) (a0_3 : Bool) (a0_4 : Int) (r : List Int) (w : World) (h : spec_CellsOf.f k a0_0 a0_1 a0_2 a0_3 a0_4 = some r) :
  Calls Try.prog 83 #[.agg #[.int .i64 a0_0, .string a0_1, .int .i32 a0_2, .bool a0_3, .int .u32 a0_4]] w fun e w' => ∃ v0_ : Value, e = .returned (v0_) ∧ Kd.R (Kd.int .u32) 47 w' w.heap.size (fun _ => True) v0_ r ∧ Below w.heap.size w w' := by
 have hu51 := Try.underlying51
 have HB := Z (Below.refl w.heap.size w)
 have H : (if a0_2 = 0 then (if a0_3 = true then (spec_CellsOf.j0 k false a0_0 a0_1 a0_2 a0_3 a0_4) else (spec_CellsOf.j0 k (a0_4 == 0) a0_0 a0_1 a0_2 a0_3 a0_4)) else (spec_CellsOf.j0 k false a0_0 a0_1 a0_2 a0_3 a0_4)) = some r := h
 clear h
 have HC2 := Aside0.mk H
 clear H
 go_enter Try.func83, Try.ntmps83
 go_upto_region 1 with (first | ((with_reducible refine gate_dst (N := 1) rfl ?_); refine box_event (by rfl) (N := 1) (by rfl) (cs := #[.int .i64 a0_0, .string a0_1, .int .i32 a0_2, .bool a0_3, .int .u32 a0_4]) (t := 51) Z5 ?_; intro gb145 hg w3 hbox hb; have BK145 := Z (hbox); have GW145 := Z ((Z66 : w.heap.size ≤ gb145)); have GE145 := Z ((Z66 : w.heap.size ≤ gb145)); replace HB := Z (below_step Z47 hb); clear hb hbox hg))
 (try simp only [Act.put, List.setIfInBounds_toArray, List.set_cons_zero, List.set_cons_succ])
 go_cut [3] (fun v3 wc => ∃ (kq : Nat) (x3_1 : Bool), v3 = .bool x3_1 ∧ Aside0 (spec_CellsOf.j0 kq x3_1 a0_0 a0_1 a0_2 a0_3 a0_4 = some r) ∧ Aside0 (kq ≤ k) ∧ Aside0 (wc.heap[gb145]? = some (.cells #[.int .i64 a0_0, .string a0_1, .int .i32 a0_2, .bool a0_3, .int .u32 a0_4] 51 (0, 0))) ∧ Aside0 (Below w.heap.size w wc))
 case first =>
  have H := HC2.out
  clear HC2
  by_cases c4 : a0_2 = 0
  ·rw [if_pos c4] at H
   have c4b0 : (a0_2 == 0) = true := beq_iff_eq.mpr c4
   have c4b1 : (a0_2 != 0) = false := bne_eq_false_iff_eq.mpr c4
   clear c4
   (first | rw [c4b0] | (simp only [i64_w, i32_w]; rw [c4b0]) | skip)
   by_cases c5 : a0_3 = true
   ·subst c5
    have H1 : (spec_CellsOf.j0 k false a0_0 a0_1 a0_2 true a0_4) = some r := Z4
    clear H
    have H := H1
    clear H1
    have H' := Aside0.mk H
    clear H
    have hcz6_0 : w3.cell? ⟨gb145, 0, none⟩ = some (.int .i64 a0_0) := (blk_cell BK145.out 0).trans rfl
    have hcz6_1 : w3.cell? ⟨gb145, 1, none⟩ = some (.string a0_1) := (blk_cell BK145.out 1).trans rfl
    have hcz6_2 : w3.cell? ⟨gb145, 2, none⟩ = some (.int .i32 a0_2) := (blk_cell BK145.out 2).trans rfl
    have hcz6_3 : w3.cell? ⟨gb145, 3, none⟩ = some (.bool true) := (blk_cell BK145.out 3).trans rfl
    have hcz6_4 : w3.cell? ⟨gb145, 4, none⟩ = some (.int .u32 a0_4) := (blk_cell BK145.out 4).trans rfl
    have hfz6_0 := blk_frozen BK145.out 0
    have hfz6_1 := blk_frozen BK145.out 1
    have hfz6_2 := blk_frozen BK145.out 2
    have hfz6_3 := blk_frozen BK145.out 3
    have hfz6_4 := blk_frozen BK145.out 4
    go_wp2
    go_meet
    case rel => exact ⟨_, (false), Z2, H', ⟨Z12⟩, ⟨(Z13 BK145)⟩, ⟨Z47⟩⟩
   ·replace c5 := Bool.eq_false_iff.mpr c5
    subst c5
    have H1 : (spec_CellsOf.j0 k (a0_4 == 0) a0_0 a0_1 a0_2 false a0_4) = some r := by rw [if_neg (show ¬ (false = true) by decide)] at H; exact H
    clear H
    have H := H1
    clear H1
    have H' := Aside0.mk H
    clear H
    have hcz7_0 : w3.cell? ⟨gb145, 0, none⟩ = some (.int .i64 a0_0) := (blk_cell BK145.out 0).trans rfl
    have hcz7_1 : w3.cell? ⟨gb145, 1, none⟩ = some (.string a0_1) := (blk_cell BK145.out 1).trans rfl
    have hcz7_2 : w3.cell? ⟨gb145, 2, none⟩ = some (.int .i32 a0_2) := (blk_cell BK145.out 2).trans rfl
    have hcz7_3 : w3.cell? ⟨gb145, 3, none⟩ = some (.bool false) := (blk_cell BK145.out 3).trans rfl
    have hcz7_4 : w3.cell? ⟨gb145, 4, none⟩ = some (.int .u32 a0_4) := (blk_cell BK145.out 4).trans rfl
    have hfz7_0 := blk_frozen BK145.out 0
    have hfz7_1 := blk_frozen BK145.out 1
    have hfz7_2 := blk_frozen BK145.out 2
    have hfz7_3 := blk_frozen BK145.out 3
    have hfz7_4 := blk_frozen BK145.out 4
    go_wp2
    go_meet
    case rel => exact ⟨_, ((a0_4 == 0)), Z2, H', ⟨Z12⟩, ⟨(Z13 BK145)⟩, ⟨Z47⟩⟩
  ·rw [if_neg c4] at H
   have c4b0 : (a0_2 == 0) = false := beq_eq_false_iff_ne.mpr c4
   have c4b1 : (a0_2 != 0) = true := bne_iff_ne.mpr c4
   (first | rw [c4b0] | (simp only [i64_w, i32_w]; rw [c4b0]) | skip)
   have H' := Aside0.mk H
   clear H
   have hcz8_0 : w3.cell? ⟨gb145, 0, none⟩ = some (.int .i64 a0_0) := (blk_cell BK145.out 0).trans rfl
   have hcz8_1 : w3.cell? ⟨gb145, 1, none⟩ = some (.string a0_1) := (blk_cell BK145.out 1).trans rfl
   have hcz8_2 : w3.cell? ⟨gb145, 2, none⟩ = some (.int .i32 a0_2) := (blk_cell BK145.out 2).trans rfl
   have hcz8_3 : w3.cell? ⟨gb145, 3, none⟩ = some (.bool a0_3) := (blk_cell BK145.out 3).trans rfl
   have hcz8_4 : w3.cell? ⟨gb145, 4, none⟩ = some (.int .u32 a0_4) := (blk_cell BK145.out 4).trans rfl
   have hfz8_0 := blk_frozen BK145.out 0
   have hfz8_1 := blk_frozen BK145.out 1
   have hfz8_2 := blk_frozen BK145.out 2
   have hfz8_3 := blk_frozen BK145.out 3
   have hfz8_4 := blk_frozen BK145.out 4
   go_wp2
   go_meet
   case rel => exact ⟨_, (false), Z2, H', ⟨Z12⟩, ⟨(Z13 BK145)⟩, ⟨Z47⟩⟩
 case rest =>
  clear HC2
  try clear p2
  try clear c4
  try clear c4b0
  try clear c4b1
  try clear c5
  try clear c8
  try clear hcz6_0
  try clear hcz6_1
  try clear hcz6_2
  try clear hcz6_3
  try clear hcz6_4
  try clear hcz7_0
  try clear hcz7_1
  try clear hcz7_2
  try clear hcz7_3
  try clear hcz7_4
  try clear hcz8_0
  try clear hcz8_1
  try clear hcz8_2
  try clear hcz8_3
  try clear hcz8_4
  try clear hfz6_0
  try clear hfz6_1
  try clear hfz6_2
  try clear hfz6_3
  try clear hfz6_4
  try clear hfz7_0
  try clear hfz7_1
  try clear hfz7_2
  try clear hfz7_3
  try clear hfz7_4
  try clear hfz8_0
  try clear hfz8_1
  try clear hfz8_2
  try clear hfz8_3
  try clear hfz8_4
  obtain ⟨kq, x3_1, rfl, HA, HJ1, BK145, HB⟩ := hcut
  cases kq with
  | zero => exact absurd HA.out (by simp [spec_CellsOf.j0])
  | succ kj1 =>
   have H := HA.out
   clear HA
   simp only [spec_CellsOf.j0] at H
   by_cases c9 : a0_0 = 0
   ·rw [if_pos c9] at H
    have c9b0 : (a0_0 == 0) = true := beq_iff_eq.mpr c9
    have c9b1 : (a0_0 != 0) = false := bne_eq_false_iff_eq.mpr c9
    clear c9
    by_cases c10 : a0_1.toList = ([] : List UInt8)
    ·rw [if_pos c10] at H
     have c10b0 : (a0_1.toList == ([] : List UInt8)) = true := beq_iff_eq.mpr c10
     have c10b1 : (a0_1.toList != ([] : List UInt8)) = false := bne_eq_false_iff_eq.mpr c10
     clear c10
     by_cases c11 : a0_2 = 0
     ·rw [if_pos c11] at H
      have c11b0 : (a0_2 == 0) = true := beq_iff_eq.mpr c11
      have c11b1 : (a0_2 != 0) = false := bne_eq_false_iff_eq.mpr c11
      clear c11
      by_cases c12 : a0_3 = true
      ·subst c12
       have H1 : (some (([] : List Int))) = some r := Z4
       clear H
       have H := H1
       clear H1
       obtain ⟨y146, hy146⟩ : ∃ y_ : List Int, y_ = (([] : List Int)) := ⟨_, rfl⟩
       replace H : (some y146) = some r := by first | (rw [hy146]; with_reducible exact H) | (have H2_ := (Option.bind_some _ _).symm.trans H; rw [hy146]; with_reducible exact H2_) | (have H2_ := (Option.bind_some _ _).symm.trans H; with_reducible exact H2_) | with_reducible exact H | (rw [hy146]; exact H) | exact H
       have Ny146 := Aside0.mk hy146
       clear hy146
       obtain rfl := Option.some.inj H
       have hcz13_0 : wc.cell? ⟨gb145, 0, none⟩ = some (.int .i64 a0_0) := (blk_cell BK145.out 0).trans rfl
       have hcz13_1 : wc.cell? ⟨gb145, 1, none⟩ = some (.string a0_1) := (blk_cell BK145.out 1).trans rfl
       have hcz13_2 : wc.cell? ⟨gb145, 2, none⟩ = some (.int .i32 a0_2) := (blk_cell BK145.out 2).trans rfl
       have hcz13_3 : wc.cell? ⟨gb145, 3, none⟩ = some (.bool true) := (blk_cell BK145.out 3).trans rfl
       have hcz13_4 : wc.cell? ⟨gb145, 4, none⟩ = some (.int .u32 a0_4) := (blk_cell BK145.out 4).trans rfl
       have hfz13_0 := blk_frozen BK145.out 0
       have hfz13_1 := blk_frozen BK145.out 1
       have hfz13_2 := blk_frozen BK145.out 2
       have hfz13_3 := blk_frozen BK145.out 3
       have hfz13_4 := blk_frozen BK145.out 4
       go_wp2_with (first | ((with_reducible refine gate_dst (N := 105) rfl ?_); refine Kd.R_lit (Kd.int .u32) _ 47 (by rfl) (N := 105) (by rfl) (xs := ([] : List Int)) (inner := []) (ok := fun _ => True) (okp := fun _ => True) Z5 (Reps.none _ _) (fun _ hk => hk) trivial (Below.refl _ _) (Nat.le_refl _) (by simp) ?_; intro v147 w14 ho15 hb hg_ hnew_; clear hg_ hnew_; (first | rw [← Ny146.out] at ho15 | (simp only [Int.reduceToNat] at ho15; rw [← Ny146.out] at ho15)); have HO148 := Z (Kd.R_lower ho15 (below_size Z47)); replace BK145 := Z (blk_below (g := gb145) (o := .cells #[.int .i64 a0_0, .string a0_1, .int .i32 a0_2, .bool true, .int .u32 a0_4] 51 (0, 0)) (Z13 BK145) hb); replace HB := Z (below_step Z47 hb); clear hb ho15))
       go_ret
       exact ⟨_, Z7, (Z8 HO148), Z47⟩
      ·replace c12 := Bool.eq_false_iff.mpr c12
       subst c12
       have H1 : (some (([a0_4] : List Int))) = some r := by rw [if_neg (show ¬ (false = true) by decide)] at H; exact H
       clear H
       have H := H1
       clear H1
       obtain ⟨y149, hy149⟩ : ∃ y_ : List Int, y_ = (([a0_4] : List Int)) := ⟨_, rfl⟩
       replace H : (some y149) = some r := by first | (rw [hy149]; with_reducible exact H) | (have H2_ := (Option.bind_some _ _).symm.trans H; rw [hy149]; with_reducible exact H2_) | (have H2_ := (Option.bind_some _ _).symm.trans H; with_reducible exact H2_) | with_reducible exact H | (rw [hy149]; exact H) | exact H
       have Ny149 := Aside0.mk hy149
       clear hy149
       obtain rfl := Option.some.inj H
       have hcz16_0 : wc.cell? ⟨gb145, 0, none⟩ = some (.int .i64 a0_0) := (blk_cell BK145.out 0).trans rfl
       have hcz16_1 : wc.cell? ⟨gb145, 1, none⟩ = some (.string a0_1) := (blk_cell BK145.out 1).trans rfl
       have hcz16_2 : wc.cell? ⟨gb145, 2, none⟩ = some (.int .i32 a0_2) := (blk_cell BK145.out 2).trans rfl
       have hcz16_3 : wc.cell? ⟨gb145, 3, none⟩ = some (.bool false) := (blk_cell BK145.out 3).trans rfl
       have hcz16_4 : wc.cell? ⟨gb145, 4, none⟩ = some (.int .u32 a0_4) := (blk_cell BK145.out 4).trans rfl
       have hfz16_0 := blk_frozen BK145.out 0
       have hfz16_1 := blk_frozen BK145.out 1
       have hfz16_2 := blk_frozen BK145.out 2
       have hfz16_3 := blk_frozen BK145.out 3
       have hfz16_4 := blk_frozen BK145.out 4
       go_wp2_with (first | ((with_reducible refine gate_dst (N := 50) rfl ?_); refine Kd.R_lit (Kd.int .u32) _ 47 (by rfl) (N := 50) (by rfl) (xs := ([a0_4] : List Int)) (inner := [.int .u32 a0_4]) (ok := fun _ => True) (okp := fun _ => True) Z5 (Reps.one (show Kd.M (Kd.int .u32) _ _ _ a0_4 [.int .u32 a0_4] from rfl) (Reps.none _ _)) (fun _ hk => hk) trivial (Below.refl _ _) (Nat.le_refl _) (by simp) ?_; intro v150 w17 ho18 hb hg_ hnew_; clear hg_ hnew_; (first | rw [← Ny149.out] at ho18 | (simp only [Int.reduceToNat] at ho18; rw [← Ny149.out] at ho18)); have HO151 := Z (Kd.R_lower ho18 (below_size Z47)); replace BK145 := Z (blk_below (g := gb145) (o := .cells #[.int .i64 a0_0, .string a0_1, .int .i32 a0_2, .bool false, .int .u32 a0_4] 51 (0, 0)) (Z13 BK145) hb); replace HB := Z (below_step Z47 hb); clear hb ho18))
       go_ret
       exact ⟨_, Z7, (Z8 HO151), Z47⟩
     ·rw [if_neg c11] at H
      have c11b0 : (a0_2 == 0) = false := beq_eq_false_iff_ne.mpr c11
      have c11b1 : (a0_2 != 0) = true := bne_iff_ne.mpr c11
      obtain ⟨y152, hy152⟩ : ∃ y_ : List Int, y_ = (([] : List Int)) := ⟨_, rfl⟩
      replace H : (some y152) = some r := by first | (rw [hy152]; with_reducible exact H) | (have H2_ := (Option.bind_some _ _).symm.trans H; rw [hy152]; with_reducible exact H2_) | (have H2_ := (Option.bind_some _ _).symm.trans H; with_reducible exact H2_) | with_reducible exact H | (rw [hy152]; exact H) | exact H
      have Ny152 := Aside0.mk hy152
      clear hy152
      obtain rfl := Option.some.inj H
      have hcz19_0 : wc.cell? ⟨gb145, 0, none⟩ = some (.int .i64 a0_0) := (blk_cell BK145.out 0).trans rfl
      have hcz19_1 : wc.cell? ⟨gb145, 1, none⟩ = some (.string a0_1) := (blk_cell BK145.out 1).trans rfl
      have hcz19_2 : wc.cell? ⟨gb145, 2, none⟩ = some (.int .i32 a0_2) := (blk_cell BK145.out 2).trans rfl
      have hcz19_3 : wc.cell? ⟨gb145, 3, none⟩ = some (.bool a0_3) := (blk_cell BK145.out 3).trans rfl
      have hcz19_4 : wc.cell? ⟨gb145, 4, none⟩ = some (.int .u32 a0_4) := (blk_cell BK145.out 4).trans rfl
      have hfz19_0 := blk_frozen BK145.out 0
      have hfz19_1 := blk_frozen BK145.out 1
      have hfz19_2 := blk_frozen BK145.out 2
      have hfz19_3 := blk_frozen BK145.out 3
      have hfz19_4 := blk_frozen BK145.out 4
      go_wp2_with (first | ((with_reducible refine gate_dst (N := 105) rfl ?_); refine Kd.R_lit (Kd.int .u32) _ 47 (by rfl) (N := 105) (by rfl) (xs := ([] : List Int)) (inner := []) (ok := fun _ => True) (okp := fun _ => True) Z5 (Reps.none _ _) (fun _ hk => hk) trivial (Below.refl _ _) (Nat.le_refl _) (by simp) ?_; intro v153 w20 ho21 hb hg_ hnew_; clear hg_ hnew_; (first | rw [← Ny152.out] at ho21 | (simp only [Int.reduceToNat] at ho21; rw [← Ny152.out] at ho21)); have HO154 := Z (Kd.R_lower ho21 (below_size Z47)); replace BK145 := Z (blk_below (g := gb145) (o := .cells #[.int .i64 a0_0, .string a0_1, .int .i32 a0_2, .bool a0_3, .int .u32 a0_4] 51 (0, 0)) (Z13 BK145) hb); replace HB := Z (below_step Z47 hb); clear hb ho21))
      go_ret
      exact ⟨_, Z7, (Z8 HO154), Z47⟩
    ·rw [if_neg c10] at H
     have c10b0 : (a0_1.toList == ([] : List UInt8)) = false := beq_eq_false_iff_ne.mpr c10
     have c10b1 : (a0_1.toList != ([] : List UInt8)) = true := bne_iff_ne.mpr c10
     obtain ⟨y155, hy155⟩ : ∃ y_ : List Int, y_ = (([] : List Int)) := ⟨_, rfl⟩
     replace H : (some y155) = some r := by first | (rw [hy155]; with_reducible exact H) | (have H2_ := (Option.bind_some _ _).symm.trans H; rw [hy155]; with_reducible exact H2_) | (have H2_ := (Option.bind_some _ _).symm.trans H; with_reducible exact H2_) | with_reducible exact H | (rw [hy155]; exact H) | exact H
     have Ny155 := Aside0.mk hy155
     clear hy155
     obtain rfl := Option.some.inj H
     have hcz22_0 : wc.cell? ⟨gb145, 0, none⟩ = some (.int .i64 a0_0) := (blk_cell BK145.out 0).trans rfl
     have hcz22_1 : wc.cell? ⟨gb145, 1, none⟩ = some (.string a0_1) := (blk_cell BK145.out 1).trans rfl
     have hcz22_2 : wc.cell? ⟨gb145, 2, none⟩ = some (.int .i32 a0_2) := (blk_cell BK145.out 2).trans rfl
     have hcz22_3 : wc.cell? ⟨gb145, 3, none⟩ = some (.bool a0_3) := (blk_cell BK145.out 3).trans rfl
     have hcz22_4 : wc.cell? ⟨gb145, 4, none⟩ = some (.int .u32 a0_4) := (blk_cell BK145.out 4).trans rfl
     have hfz22_0 := blk_frozen BK145.out 0
     have hfz22_1 := blk_frozen BK145.out 1
     have hfz22_2 := blk_frozen BK145.out 2
     have hfz22_3 := blk_frozen BK145.out 3
     have hfz22_4 := blk_frozen BK145.out 4
     go_wp2_with (first | ((with_reducible refine gate_dst (N := 105) rfl ?_); refine Kd.R_lit (Kd.int .u32) _ 47 (by rfl) (N := 105) (by rfl) (xs := ([] : List Int)) (inner := []) (ok := fun _ => True) (okp := fun _ => True) Z5 (Reps.none _ _) (fun _ hk => hk) trivial (Below.refl _ _) (Nat.le_refl _) (by simp) ?_; intro v156 w23 ho24 hb hg_ hnew_; clear hg_ hnew_; (first | rw [← Ny155.out] at ho24 | (simp only [Int.reduceToNat] at ho24; rw [← Ny155.out] at ho24)); have HO157 := Z (Kd.R_lower ho24 (below_size Z47)); replace BK145 := Z (blk_below (g := gb145) (o := .cells #[.int .i64 a0_0, .string a0_1, .int .i32 a0_2, .bool a0_3, .int .u32 a0_4] 51 (0, 0)) (Z13 BK145) hb); replace HB := Z (below_step Z47 hb); clear hb ho24))
     go_ret
     exact ⟨_, Z7, (Z8 HO157), Z47⟩
   ·rw [if_neg c9] at H
    have c9b0 : (a0_0 == 0) = false := beq_eq_false_iff_ne.mpr c9
    have c9b1 : (a0_0 != 0) = true := bne_iff_ne.mpr c9
    by_cases c25 : a0_0 = 7
    ·rw [if_pos c25] at H
     have c25b0 : (a0_0 == 7) = true := beq_iff_eq.mpr c25
     have c25b1 : (a0_0 != 7) = false := bne_eq_false_iff_eq.mpr c25
     clear c25
     by_cases c26 : a0_1.toList = ([] : List UInt8)
     ·rw [if_pos c26] at H
      have c26b0 : (a0_1.toList == ([] : List UInt8)) = true := beq_iff_eq.mpr c26
      have c26b1 : (a0_1.toList != ([] : List UInt8)) = false := bne_eq_false_iff_eq.mpr c26
      clear c26
      by_cases c27 : a0_4 = 0
      ·rw [if_pos c27] at H
       have c27b0 : (a0_4 == 0) = true := beq_iff_eq.mpr c27
       have c27b1 : (a0_4 != 0) = false := bne_eq_false_iff_eq.mpr c27
       clear c27
       replace H := Option.bind_eq_some_iff.mp H
       obtain ⟨t158, A280, H⟩ := H
       replace H : (some t158) = some r := H
       have A28 := Aside0.mk A280
       clear A280
       obtain rfl := Option.some.inj H
       have hcz29_0 : wc.cell? ⟨gb145, 0, none⟩ = some (.int .i64 a0_0) := (blk_cell BK145.out 0).trans rfl
       have hcz29_1 : wc.cell? ⟨gb145, 1, none⟩ = some (.string a0_1) := (blk_cell BK145.out 1).trans rfl
       have hcz29_2 : wc.cell? ⟨gb145, 2, none⟩ = some (.int .i32 a0_2) := (blk_cell BK145.out 2).trans rfl
       have hcz29_3 : wc.cell? ⟨gb145, 3, none⟩ = some (.bool a0_3) := (blk_cell BK145.out 3).trans rfl
       have hcz29_4 : wc.cell? ⟨gb145, 4, none⟩ = some (.int .u32 a0_4) := (blk_cell BK145.out 4).trans rfl
       have hfz29_0 := blk_frozen BK145.out 0
       have hfz29_1 := blk_frozen BK145.out 1
       have hfz29_2 := blk_frozen BK145.out 2
       have hfz29_3 := blk_frozen BK145.out 3
       have hfz29_4 := blk_frozen BK145.out 4
       go_wp2_with (first | ((with_reducible refine gate_callee (f := 108) rfl ?_); refine goesL_ (some 65) rfl rfl Try.func108 Z0 rfl #[.int .i32 a0_2, .bool a0_3, .int .u32 8, .int .u32 2] rfl Z9 ?_; (with_reducible refine (spec_l04Num.calls a0_2 a0_3 8 2 t158 _ A28.out).mono ?_); rintro e w30 ⟨v159, rfl, ho0, hb⟩; refine ⟨_, rfl, ?_⟩; have HO160 := Z (Kd.R_lower ho0 (below_size Z47)); replace BK145 := Z (blk_below (g := gb145) (o := .cells #[.int .i64 a0_0, .string a0_1, .int .i32 a0_2, .bool a0_3, .int .u32 a0_4] 51 (0, 0)) (Z13 BK145) hb); replace HB := Z (below_step Z47 hb); (try clear hb); (try clear hb2); (try clear hk); (try clear hi); (try clear ho0)))
       go_ret
       exact ⟨_, Z7, (Z8 HO160), Z47⟩
      ·rw [if_neg c27] at H
       have c27b0 : (a0_4 == 0) = false := beq_eq_false_iff_ne.mpr c27
       have c27b1 : (a0_4 != 0) = true := bne_iff_ne.mpr c27
       obtain ⟨y161, hy161⟩ : ∃ y_ : List Int, y_ = (([] : List Int)) := ⟨_, rfl⟩
       replace H : (some y161) = some r := by first | (rw [hy161]; with_reducible exact H) | (have H2_ := (Option.bind_some _ _).symm.trans H; rw [hy161]; with_reducible exact H2_) | (have H2_ := (Option.bind_some _ _).symm.trans H; with_reducible exact H2_) | with_reducible exact H | (rw [hy161]; exact H) | exact H
       have Ny161 := Aside0.mk hy161
       clear hy161
       obtain rfl := Option.some.inj H
       have hcz31_0 : wc.cell? ⟨gb145, 0, none⟩ = some (.int .i64 a0_0) := (blk_cell BK145.out 0).trans rfl
       have hcz31_1 : wc.cell? ⟨gb145, 1, none⟩ = some (.string a0_1) := (blk_cell BK145.out 1).trans rfl
       have hcz31_2 : wc.cell? ⟨gb145, 2, none⟩ = some (.int .i32 a0_2) := (blk_cell BK145.out 2).trans rfl
       have hcz31_3 : wc.cell? ⟨gb145, 3, none⟩ = some (.bool a0_3) := (blk_cell BK145.out 3).trans rfl
       have hcz31_4 : wc.cell? ⟨gb145, 4, none⟩ = some (.int .u32 a0_4) := (blk_cell BK145.out 4).trans rfl
       have hfz31_0 := blk_frozen BK145.out 0
       have hfz31_1 := blk_frozen BK145.out 1
       have hfz31_2 := blk_frozen BK145.out 2
       have hfz31_3 := blk_frozen BK145.out 3
       have hfz31_4 := blk_frozen BK145.out 4
       go_wp2_with (first | ((with_reducible refine gate_dst (N := 105) rfl ?_); refine Kd.R_lit (Kd.int .u32) _ 47 (by rfl) (N := 105) (by rfl) (xs := ([] : List Int)) (inner := []) (ok := fun _ => True) (okp := fun _ => True) Z5 (Reps.none _ _) (fun _ hk => hk) trivial (Below.refl _ _) (Nat.le_refl _) (by simp) ?_; intro v162 w32 ho33 hb hg_ hnew_; clear hg_ hnew_; (first | rw [← Ny161.out] at ho33 | (simp only [Int.reduceToNat] at ho33; rw [← Ny161.out] at ho33)); have HO163 := Z (Kd.R_lower ho33 (below_size Z47)); replace BK145 := Z (blk_below (g := gb145) (o := .cells #[.int .i64 a0_0, .string a0_1, .int .i32 a0_2, .bool a0_3, .int .u32 a0_4] 51 (0, 0)) (Z13 BK145) hb); replace HB := Z (below_step Z47 hb); clear hb ho33))
       go_ret
       exact ⟨_, Z7, (Z8 HO163), Z47⟩
     ·rw [if_neg c26] at H
      have c26b0 : (a0_1.toList == ([] : List UInt8)) = false := beq_eq_false_iff_ne.mpr c26
      have c26b1 : (a0_1.toList != ([] : List UInt8)) = true := bne_iff_ne.mpr c26
      obtain ⟨y164, hy164⟩ : ∃ y_ : List Int, y_ = (([] : List Int)) := ⟨_, rfl⟩
      replace H : (some y164) = some r := by first | (rw [hy164]; with_reducible exact H) | (have H2_ := (Option.bind_some _ _).symm.trans H; rw [hy164]; with_reducible exact H2_) | (have H2_ := (Option.bind_some _ _).symm.trans H; with_reducible exact H2_) | with_reducible exact H | (rw [hy164]; exact H) | exact H
      have Ny164 := Aside0.mk hy164
      clear hy164
      obtain rfl := Option.some.inj H
      have hcz34_0 : wc.cell? ⟨gb145, 0, none⟩ = some (.int .i64 a0_0) := (blk_cell BK145.out 0).trans rfl
      have hcz34_1 : wc.cell? ⟨gb145, 1, none⟩ = some (.string a0_1) := (blk_cell BK145.out 1).trans rfl
      have hcz34_2 : wc.cell? ⟨gb145, 2, none⟩ = some (.int .i32 a0_2) := (blk_cell BK145.out 2).trans rfl
      have hcz34_3 : wc.cell? ⟨gb145, 3, none⟩ = some (.bool a0_3) := (blk_cell BK145.out 3).trans rfl
      have hcz34_4 : wc.cell? ⟨gb145, 4, none⟩ = some (.int .u32 a0_4) := (blk_cell BK145.out 4).trans rfl
      have hfz34_0 := blk_frozen BK145.out 0
      have hfz34_1 := blk_frozen BK145.out 1
      have hfz34_2 := blk_frozen BK145.out 2
      have hfz34_3 := blk_frozen BK145.out 3
      have hfz34_4 := blk_frozen BK145.out 4
      go_wp2_with (first | ((with_reducible refine gate_dst (N := 105) rfl ?_); refine Kd.R_lit (Kd.int .u32) _ 47 (by rfl) (N := 105) (by rfl) (xs := ([] : List Int)) (inner := []) (ok := fun _ => True) (okp := fun _ => True) Z5 (Reps.none _ _) (fun _ hk => hk) trivial (Below.refl _ _) (Nat.le_refl _) (by simp) ?_; intro v165 w35 ho36 hb hg_ hnew_; clear hg_ hnew_; (first | rw [← Ny164.out] at ho36 | (simp only [Int.reduceToNat] at ho36; rw [← Ny164.out] at ho36)); have HO166 := Z (Kd.R_lower ho36 (below_size Z47)); replace BK145 := Z (blk_below (g := gb145) (o := .cells #[.int .i64 a0_0, .string a0_1, .int .i32 a0_2, .bool a0_3, .int .u32 a0_4] 51 (0, 0)) (Z13 BK145) hb); replace HB := Z (below_step Z47 hb); clear hb ho36))
      go_ret
      exact ⟨_, Z7, (Z8 HO166), Z47⟩
    ·rw [if_neg c25] at H
     have c25b0 : (a0_0 == 7) = false := beq_eq_false_iff_ne.mpr c25
     have c25b1 : (a0_0 != 7) = true := bne_iff_ne.mpr c25
     by_cases c37 : a0_0 = 8
     ·rw [if_pos c37] at H
      have c37b0 : (a0_0 == 8) = true := beq_iff_eq.mpr c37
      have c37b1 : (a0_0 != 8) = false := bne_eq_false_iff_eq.mpr c37
      clear c37
      by_cases c38 : a0_1.toList = ([] : List UInt8)
      ·rw [if_pos c38] at H
       have c38b0 : (a0_1.toList == ([] : List UInt8)) = true := beq_iff_eq.mpr c38
       have c38b1 : (a0_1.toList != ([] : List UInt8)) = false := bne_eq_false_iff_eq.mpr c38
       clear c38
       by_cases c39 : a0_4 = 0
       ·rw [if_pos c39] at H
        have c39b0 : (a0_4 == 0) = true := beq_iff_eq.mpr c39
        have c39b1 : (a0_4 != 0) = false := bne_eq_false_iff_eq.mpr c39
        clear c39
        replace H := Option.bind_eq_some_iff.mp H
        obtain ⟨t167, A400, H⟩ := H
        replace H : (some t167) = some r := H
        have A40 := Aside0.mk A400
        clear A400
        obtain rfl := Option.some.inj H
        have hcz41_0 : wc.cell? ⟨gb145, 0, none⟩ = some (.int .i64 a0_0) := (blk_cell BK145.out 0).trans rfl
        have hcz41_1 : wc.cell? ⟨gb145, 1, none⟩ = some (.string a0_1) := (blk_cell BK145.out 1).trans rfl
        have hcz41_2 : wc.cell? ⟨gb145, 2, none⟩ = some (.int .i32 a0_2) := (blk_cell BK145.out 2).trans rfl
        have hcz41_3 : wc.cell? ⟨gb145, 3, none⟩ = some (.bool a0_3) := (blk_cell BK145.out 3).trans rfl
        have hcz41_4 : wc.cell? ⟨gb145, 4, none⟩ = some (.int .u32 a0_4) := (blk_cell BK145.out 4).trans rfl
        have hfz41_0 := blk_frozen BK145.out 0
        have hfz41_1 := blk_frozen BK145.out 1
        have hfz41_2 := blk_frozen BK145.out 2
        have hfz41_3 := blk_frozen BK145.out 3
        have hfz41_4 := blk_frozen BK145.out 4
        go_wp2_with (first | ((with_reducible refine gate_callee (f := 108) rfl ?_); refine goesL_ (some 80) rfl rfl Try.func108 Z0 rfl #[.int .i32 a0_2, .bool a0_3, .int .u32 6, .int .u32 5] rfl Z9 ?_; (with_reducible refine (spec_l04Num.calls a0_2 a0_3 6 5 t167 _ A40.out).mono ?_); rintro e w42 ⟨v168, rfl, ho0, hb⟩; refine ⟨_, rfl, ?_⟩; have HO169 := Z (Kd.R_lower ho0 (below_size Z47)); replace BK145 := Z (blk_below (g := gb145) (o := .cells #[.int .i64 a0_0, .string a0_1, .int .i32 a0_2, .bool a0_3, .int .u32 a0_4] 51 (0, 0)) (Z13 BK145) hb); replace HB := Z (below_step Z47 hb); (try clear hb); (try clear hb2); (try clear hk); (try clear hi); (try clear ho0)))
        go_ret
        exact ⟨_, Z7, (Z8 HO169), Z47⟩
       ·rw [if_neg c39] at H
        have c39b0 : (a0_4 == 0) = false := beq_eq_false_iff_ne.mpr c39
        have c39b1 : (a0_4 != 0) = true := bne_iff_ne.mpr c39
        obtain ⟨y170, hy170⟩ : ∃ y_ : List Int, y_ = (([] : List Int)) := ⟨_, rfl⟩
        replace H : (some y170) = some r := by first | (rw [hy170]; with_reducible exact H) | (have H2_ := (Option.bind_some _ _).symm.trans H; rw [hy170]; with_reducible exact H2_) | (have H2_ := (Option.bind_some _ _).symm.trans H; with_reducible exact H2_) | with_reducible exact H | (rw [hy170]; exact H) | exact H
        have Ny170 := Aside0.mk hy170
        clear hy170
        obtain rfl := Option.some.inj H
        have hcz43_0 : wc.cell? ⟨gb145, 0, none⟩ = some (.int .i64 a0_0) := (blk_cell BK145.out 0).trans rfl
        have hcz43_1 : wc.cell? ⟨gb145, 1, none⟩ = some (.string a0_1) := (blk_cell BK145.out 1).trans rfl
        have hcz43_2 : wc.cell? ⟨gb145, 2, none⟩ = some (.int .i32 a0_2) := (blk_cell BK145.out 2).trans rfl
        have hcz43_3 : wc.cell? ⟨gb145, 3, none⟩ = some (.bool a0_3) := (blk_cell BK145.out 3).trans rfl
        have hcz43_4 : wc.cell? ⟨gb145, 4, none⟩ = some (.int .u32 a0_4) := (blk_cell BK145.out 4).trans rfl
        have hfz43_0 := blk_frozen BK145.out 0
        have hfz43_1 := blk_frozen BK145.out 1
        have hfz43_2 := blk_frozen BK145.out 2
        have hfz43_3 := blk_frozen BK145.out 3
        have hfz43_4 := blk_frozen BK145.out 4
        go_wp2_with (first | ((with_reducible refine gate_dst (N := 105) rfl ?_); refine Kd.R_lit (Kd.int .u32) _ 47 (by rfl) (N := 105) (by rfl) (xs := ([] : List Int)) (inner := []) (ok := fun _ => True) (okp := fun _ => True) Z5 (Reps.none _ _) (fun _ hk => hk) trivial (Below.refl _ _) (Nat.le_refl _) (by simp) ?_; intro v171 w44 ho45 hb hg_ hnew_; clear hg_ hnew_; (first | rw [← Ny170.out] at ho45 | (simp only [Int.reduceToNat] at ho45; rw [← Ny170.out] at ho45)); have HO172 := Z (Kd.R_lower ho45 (below_size Z47)); replace BK145 := Z (blk_below (g := gb145) (o := .cells #[.int .i64 a0_0, .string a0_1, .int .i32 a0_2, .bool a0_3, .int .u32 a0_4] 51 (0, 0)) (Z13 BK145) hb); replace HB := Z (below_step Z47 hb); clear hb ho45))
        go_ret
        exact ⟨_, Z7, (Z8 HO172), Z47⟩
      ·rw [if_neg c38] at H
       have c38b0 : (a0_1.toList == ([] : List UInt8)) = false := beq_eq_false_iff_ne.mpr c38
       have c38b1 : (a0_1.toList != ([] : List UInt8)) = true := bne_iff_ne.mpr c38
       obtain ⟨y173, hy173⟩ : ∃ y_ : List Int, y_ = (([] : List Int)) := ⟨_, rfl⟩
       replace H : (some y173) = some r := by first | (rw [hy173]; with_reducible exact H) | (have H2_ := (Option.bind_some _ _).symm.trans H; rw [hy173]; with_reducible exact H2_) | (have H2_ := (Option.bind_some _ _).symm.trans H; with_reducible exact H2_) | with_reducible exact H | (rw [hy173]; exact H) | exact H
       have Ny173 := Aside0.mk hy173
       clear hy173
       obtain rfl := Option.some.inj H
       have hcz46_0 : wc.cell? ⟨gb145, 0, none⟩ = some (.int .i64 a0_0) := (blk_cell BK145.out 0).trans rfl
       have hcz46_1 : wc.cell? ⟨gb145, 1, none⟩ = some (.string a0_1) := (blk_cell BK145.out 1).trans rfl
       have hcz46_2 : wc.cell? ⟨gb145, 2, none⟩ = some (.int .i32 a0_2) := (blk_cell BK145.out 2).trans rfl
       have hcz46_3 : wc.cell? ⟨gb145, 3, none⟩ = some (.bool a0_3) := (blk_cell BK145.out 3).trans rfl
       have hcz46_4 : wc.cell? ⟨gb145, 4, none⟩ = some (.int .u32 a0_4) := (blk_cell BK145.out 4).trans rfl
       have hfz46_0 := blk_frozen BK145.out 0
       have hfz46_1 := blk_frozen BK145.out 1
       have hfz46_2 := blk_frozen BK145.out 2
       have hfz46_3 := blk_frozen BK145.out 3
       have hfz46_4 := blk_frozen BK145.out 4
       go_wp2_with (first | ((with_reducible refine gate_dst (N := 105) rfl ?_); refine Kd.R_lit (Kd.int .u32) _ 47 (by rfl) (N := 105) (by rfl) (xs := ([] : List Int)) (inner := []) (ok := fun _ => True) (okp := fun _ => True) Z5 (Reps.none _ _) (fun _ hk => hk) trivial (Below.refl _ _) (Nat.le_refl _) (by simp) ?_; intro v174 w47 ho48 hb hg_ hnew_; clear hg_ hnew_; (first | rw [← Ny173.out] at ho48 | (simp only [Int.reduceToNat] at ho48; rw [← Ny173.out] at ho48)); have HO175 := Z (Kd.R_lower ho48 (below_size Z47)); replace BK145 := Z (blk_below (g := gb145) (o := .cells #[.int .i64 a0_0, .string a0_1, .int .i32 a0_2, .bool a0_3, .int .u32 a0_4] 51 (0, 0)) (Z13 BK145) hb); replace HB := Z (below_step Z47 hb); clear hb ho48))
       go_ret
       exact ⟨_, Z7, (Z8 HO175), Z47⟩
     ·rw [if_neg c37] at H
      have c37b0 : (a0_0 == 8) = false := beq_eq_false_iff_ne.mpr c37
      have c37b1 : (a0_0 != 8) = true := bne_iff_ne.mpr c37
      by_cases c49 : a0_0 = 9
      ·rw [if_pos c49] at H
       have c49b0 : (a0_0 == 9) = true := beq_iff_eq.mpr c49
       have c49b1 : (a0_0 != 9) = false := bne_eq_false_iff_eq.mpr c49
       clear c49
       replace H := Option.bind_eq_some_iff.mp H
       obtain ⟨t176, A500, H⟩ := H
       replace H : (if (t176.length : Int) = 1 then (if a0_3 = true then (some (([] : List Int))) else (if a0_4 = 0 then (if t176.length < 35184372088832 then (some (t176 ++ [(a0_2) % 4294967296])) else (none)) else (some (([] : List Int))))) else (some (([] : List Int)))) = some r := H
       have A50 := Aside0.mk A500
       clear A500
       by_cases c51 : (t176.length : Int) = 1
       ·rw [if_pos c51] at H
        have c51b0 : ((t176.length : Int) == 1) = true := beq_iff_eq.mpr c51
        have c51b1 : ((t176.length : Int) != 1) = false := bne_eq_false_iff_eq.mpr c51
        clear c51
        by_cases c52 : a0_3 = true
        ·subst c52
         have H1 : (some (([] : List Int))) = some r := Z4
         clear H
         have H := H1
         clear H1
         obtain ⟨y179, hy179⟩ : ∃ y_ : List Int, y_ = (([] : List Int)) := ⟨_, rfl⟩
         replace H : (some y179) = some r := by first | (rw [hy179]; with_reducible exact H) | (have H2_ := (Option.bind_some _ _).symm.trans H; rw [hy179]; with_reducible exact H2_) | (have H2_ := (Option.bind_some _ _).symm.trans H; with_reducible exact H2_) | with_reducible exact H | (rw [hy179]; exact H) | exact H
         have Ny179 := Aside0.mk hy179
         clear hy179
         obtain rfl := Option.some.inj H
         have hcz53_0 : wc.cell? ⟨gb145, 0, none⟩ = some (.int .i64 a0_0) := (blk_cell BK145.out 0).trans rfl
         have hcz53_1 : wc.cell? ⟨gb145, 1, none⟩ = some (.string a0_1) := (blk_cell BK145.out 1).trans rfl
         have hcz53_2 : wc.cell? ⟨gb145, 2, none⟩ = some (.int .i32 a0_2) := (blk_cell BK145.out 2).trans rfl
         have hcz53_3 : wc.cell? ⟨gb145, 3, none⟩ = some (.bool true) := (blk_cell BK145.out 3).trans rfl
         have hcz53_4 : wc.cell? ⟨gb145, 4, none⟩ = some (.int .u32 a0_4) := (blk_cell BK145.out 4).trans rfl
         have hfz53_0 := blk_frozen BK145.out 0
         have hfz53_1 := blk_frozen BK145.out 1
         have hfz53_2 := blk_frozen BK145.out 2
         have hfz53_3 := blk_frozen BK145.out 3
         have hfz53_4 := blk_frozen BK145.out 4
         go_wp2_with (first | ((with_reducible refine gate_callee (f := 109) rfl ?_); refine goesL_ (some 85) rfl rfl Try.func109 Z0 rfl #[.int .u32 12, .string a0_1] rfl Z9 ?_; (with_reducible refine (spec_l04Word.calls kj1 12 a0_1 t176 _ A50.out).mono ?_); rintro e w54 ⟨v177, rfl, ho0, hb⟩; refine ⟨_, rfl, ?_⟩; have HO178 := Z (Kd.R_lower ho0 (below_size Z47)); replace BK145 := Z (blk_below (g := gb145) (o := .cells #[.int .i64 a0_0, .string a0_1, .int .i32 a0_2, .bool true, .int .u32 a0_4] 51 (0, 0)) (Z13 BK145) hb); replace HB := Z (below_step Z47 hb); (try clear hb); (try clear hb2); (try clear hk); (try clear hi); (try clear ho0); obtain ⟨Ao55, co55, eo55⟩ := Kd.R_slice HO178.out; subst eo55; have hcz56_0 : w54.cell? ⟨gb145, 0, none⟩ = some (.int .i64 a0_0) := (blk_cell BK145.out 0).trans rfl; have hcz56_1 : w54.cell? ⟨gb145, 1, none⟩ = some (.string a0_1) := (blk_cell BK145.out 1).trans rfl; have hcz56_2 : w54.cell? ⟨gb145, 2, none⟩ = some (.int .i32 a0_2) := (blk_cell BK145.out 2).trans rfl; have hcz56_3 : w54.cell? ⟨gb145, 3, none⟩ = some (.bool true) := (blk_cell BK145.out 3).trans rfl; have hcz56_4 : w54.cell? ⟨gb145, 4, none⟩ = some (.int .u32 a0_4) := (blk_cell BK145.out 4).trans rfl; have hfz56_0 := blk_frozen BK145.out 0; have hfz56_1 := blk_frozen BK145.out 1; have hfz56_2 := blk_frozen BK145.out 2; have hfz56_3 := blk_frozen BK145.out 3; have hfz56_4 := blk_frozen BK145.out 4) | ((with_reducible refine gate_dst (N := 105) rfl ?_); refine Kd.R_lit (Kd.int .u32) _ 47 (by rfl) (N := 105) (by rfl) (xs := ([] : List Int)) (inner := []) (ok := fun _ => True) (okp := fun _ => True) Z5 (Reps.none _ _) (fun _ hk => hk) trivial (Below.refl _ _) (Nat.le_refl _) (by simp) ?_; intro v180 w57 ho58 hb hg_ hnew_; clear hg_ hnew_; (first | rw [← Ny179.out] at ho58 | (simp only [Int.reduceToNat] at ho58; rw [← Ny179.out] at ho58)); have HO181 := Z (Kd.R_lower (Kd.R_new' ho58 (Kd.R_lt (Z8 HO178))) (below_size Z47)); replace HO178 := Z (Kd.R_elder' (Z8 HO178) (Kd.R_base ho58) hb); replace BK145 := Z (blk_below (g := gb145) (o := .cells #[.int .i64 a0_0, .string a0_1, .int .i32 a0_2, .bool true, .int .u32 a0_4] 51 (0, 0)) (Z13 BK145) hb); replace HB := Z (below_step Z47 hb); clear hb ho58))
         go_ret
         exact ⟨_, Z7, (Z14 HO181), Z47⟩
        ·replace c52 := Bool.eq_false_iff.mpr c52
         subst c52
         have H1 : (if a0_4 = 0 then (if t176.length < 35184372088832 then (some (t176 ++ [(a0_2) % 4294967296])) else (none)) else (some (([] : List Int)))) = some r := by rw [if_neg (show ¬ (false = true) by decide)] at H; exact H
         clear H
         have H := H1
         clear H1
         by_cases c59 : a0_4 = 0
         ·rw [if_pos c59] at H
          have c59b0 : (a0_4 == 0) = true := beq_iff_eq.mpr c59
          have c59b1 : (a0_4 != 0) = false := bne_eq_false_iff_eq.mpr c59
          clear c59
          by_cases c60 : t176.length < 35184372088832
          ·rw [if_pos c60] at H
           have LMc60 := Aside0.mk c60
           clear c60
           obtain ⟨y182, hy182⟩ : ∃ y_ : List Int, y_ = (t176 ++ [(a0_2) % 4294967296]) := ⟨_, rfl⟩
           replace H : (some y182) = some r := by first | (rw [hy182]; with_reducible exact H) | (have H2_ := (Option.bind_some _ _).symm.trans H; rw [hy182]; with_reducible exact H2_) | (have H2_ := (Option.bind_some _ _).symm.trans H; with_reducible exact H2_) | with_reducible exact H | (rw [hy182]; exact H) | exact H
           have Ny182 := Aside0.mk hy182
           clear hy182
           obtain rfl := Option.some.inj H
           have hcz61_0 : wc.cell? ⟨gb145, 0, none⟩ = some (.int .i64 a0_0) := (blk_cell BK145.out 0).trans rfl
           have hcz61_1 : wc.cell? ⟨gb145, 1, none⟩ = some (.string a0_1) := (blk_cell BK145.out 1).trans rfl
           have hcz61_2 : wc.cell? ⟨gb145, 2, none⟩ = some (.int .i32 a0_2) := (blk_cell BK145.out 2).trans rfl
           have hcz61_3 : wc.cell? ⟨gb145, 3, none⟩ = some (.bool false) := (blk_cell BK145.out 3).trans rfl
           have hcz61_4 : wc.cell? ⟨gb145, 4, none⟩ = some (.int .u32 a0_4) := (blk_cell BK145.out 4).trans rfl
           have hfz61_0 := blk_frozen BK145.out 0
           have hfz61_1 := blk_frozen BK145.out 1
           have hfz61_2 := blk_frozen BK145.out 2
           have hfz61_3 := blk_frozen BK145.out 3
           have hfz61_4 := blk_frozen BK145.out 4
           go_wp2_with (first | ((with_reducible refine gate_callee (f := 109) rfl ?_); refine goesL_ (some 85) rfl rfl Try.func109 Z0 rfl #[.int .u32 12, .string a0_1] rfl Z9 ?_; (with_reducible refine (spec_l04Word.calls kj1 12 a0_1 t176 _ A50.out).mono ?_); rintro e w62 ⟨v177, rfl, ho0, hb⟩; refine ⟨_, rfl, ?_⟩; have HO178 := Z (Kd.R_lower ho0 (below_size Z47)); replace BK145 := Z (blk_below (g := gb145) (o := .cells #[.int .i64 a0_0, .string a0_1, .int .i32 a0_2, .bool false, .int .u32 a0_4] 51 (0, 0)) (Z13 BK145) hb); replace HB := Z (below_step Z47 hb); (try clear hb); (try clear hb2); (try clear hk); (try clear hi); (try clear ho0); obtain ⟨Ao63, co63, eo63⟩ := Kd.R_slice HO178.out; subst eo63; have hcz64_0 : w62.cell? ⟨gb145, 0, none⟩ = some (.int .i64 a0_0) := (blk_cell BK145.out 0).trans rfl; have hcz64_1 : w62.cell? ⟨gb145, 1, none⟩ = some (.string a0_1) := (blk_cell BK145.out 1).trans rfl; have hcz64_2 : w62.cell? ⟨gb145, 2, none⟩ = some (.int .i32 a0_2) := (blk_cell BK145.out 2).trans rfl; have hcz64_3 : w62.cell? ⟨gb145, 3, none⟩ = some (.bool false) := (blk_cell BK145.out 3).trans rfl; have hcz64_4 : w62.cell? ⟨gb145, 4, none⟩ = some (.int .u32 a0_4) := (blk_cell BK145.out 4).trans rfl; have hfz64_0 := blk_frozen BK145.out 0; have hfz64_1 := blk_frozen BK145.out 1; have hfz64_2 := blk_frozen BK145.out 2; have hfz64_3 := blk_frozen BK145.out 3; have hfz64_4 := blk_frozen BK145.out 4) | ((with_reducible refine gate_builtin (b := .append) (xs := #[.tmp 99, .tmp 103]) rfl ?_); at_builtin; refine Kd.R_append (Kd.int .u32) (w0 := w) w.heap.size rfl (.tmp 99) (.tmp 103) 24 47 (.int .u32 0) 4 rfl Try.underlying24 info47 rfl (by decide) (by omega) (.slice Ao63 t176.length co63) t176 ((a0_2) % 4294967296) [.int .u32 ((a0_2) % 4294967296)] (fun _ => True) (fun _ => False) rfl rfl ?aP (fun _ hk => hk.elim) ?aF ?aO ?aB ?aS ?aL ?_; (case aP => exact rfl); (case aB => exact Z47); (case aF => exact (fun _ _ => trivial)); (case aO => exact (Z8 HO178)); (case aS => exact (below_size Z47)); (case aL => have := LMc60.out; omega); intro v183 w65 ho hb hg hat; rw [← Ny182.out] at ho; replace BK145 := Z (blk_grown (g := gb145) (o := .cells #[.int .i64 a0_0, .string a0_1, .int .i32 a0_2, .bool false, .int .u32 a0_4] 51 (0, 0)) (Z13 BK145) hg (Kd.R_ne HO178.out BK145.out (by decide))); replace HB := Z (hb); have HO184 := Z (ho); clear HO178; clear ho hb hg hat))
           go_ret
           exact ⟨_, Z7, (Z8 HO184), Z47⟩
          ·rw [if_neg c60] at H
           exact absurd H (by simp)
         ·rw [if_neg c59] at H
          have c59b0 : (a0_4 == 0) = false := beq_eq_false_iff_ne.mpr c59
          have c59b1 : (a0_4 != 0) = true := bne_iff_ne.mpr c59
          obtain ⟨y185, hy185⟩ : ∃ y_ : List Int, y_ = (([] : List Int)) := ⟨_, rfl⟩
          replace H : (some y185) = some r := by first | (rw [hy185]; with_reducible exact H) | (have H2_ := (Option.bind_some _ _).symm.trans H; rw [hy185]; with_reducible exact H2_) | (have H2_ := (Option.bind_some _ _).symm.trans H; with_reducible exact H2_) | with_reducible exact H | (rw [hy185]; exact H) | exact H
          have Ny185 := Aside0.mk hy185
          clear hy185
          obtain rfl := Option.some.inj H
          have hcz66_0 : wc.cell? ⟨gb145, 0, none⟩ = some (.int .i64 a0_0) := (blk_cell BK145.out 0).trans rfl
          have hcz66_1 : wc.cell? ⟨gb145, 1, none⟩ = some (.string a0_1) := (blk_cell BK145.out 1).trans rfl
          have hcz66_2 : wc.cell? ⟨gb145, 2, none⟩ = some (.int .i32 a0_2) := (blk_cell BK145.out 2).trans rfl
          have hcz66_3 : wc.cell? ⟨gb145, 3, none⟩ = some (.bool false) := (blk_cell BK145.out 3).trans rfl
          have hcz66_4 : wc.cell? ⟨gb145, 4, none⟩ = some (.int .u32 a0_4) := (blk_cell BK145.out 4).trans rfl
          have hfz66_0 := blk_frozen BK145.out 0
          have hfz66_1 := blk_frozen BK145.out 1
          have hfz66_2 := blk_frozen BK145.out 2
          have hfz66_3 := blk_frozen BK145.out 3
          have hfz66_4 := blk_frozen BK145.out 4
          go_wp2_with (first | ((with_reducible refine gate_callee (f := 109) rfl ?_); refine goesL_ (some 85) rfl rfl Try.func109 Z0 rfl #[.int .u32 12, .string a0_1] rfl Z9 ?_; (with_reducible refine (spec_l04Word.calls kj1 12 a0_1 t176 _ A50.out).mono ?_); rintro e w67 ⟨v177, rfl, ho0, hb⟩; refine ⟨_, rfl, ?_⟩; have HO178 := Z (Kd.R_lower ho0 (below_size Z47)); replace BK145 := Z (blk_below (g := gb145) (o := .cells #[.int .i64 a0_0, .string a0_1, .int .i32 a0_2, .bool false, .int .u32 a0_4] 51 (0, 0)) (Z13 BK145) hb); replace HB := Z (below_step Z47 hb); (try clear hb); (try clear hb2); (try clear hk); (try clear hi); (try clear ho0); obtain ⟨Ao68, co68, eo68⟩ := Kd.R_slice HO178.out; subst eo68; have hcz69_0 : w67.cell? ⟨gb145, 0, none⟩ = some (.int .i64 a0_0) := (blk_cell BK145.out 0).trans rfl; have hcz69_1 : w67.cell? ⟨gb145, 1, none⟩ = some (.string a0_1) := (blk_cell BK145.out 1).trans rfl; have hcz69_2 : w67.cell? ⟨gb145, 2, none⟩ = some (.int .i32 a0_2) := (blk_cell BK145.out 2).trans rfl; have hcz69_3 : w67.cell? ⟨gb145, 3, none⟩ = some (.bool false) := (blk_cell BK145.out 3).trans rfl; have hcz69_4 : w67.cell? ⟨gb145, 4, none⟩ = some (.int .u32 a0_4) := (blk_cell BK145.out 4).trans rfl; have hfz69_0 := blk_frozen BK145.out 0; have hfz69_1 := blk_frozen BK145.out 1; have hfz69_2 := blk_frozen BK145.out 2; have hfz69_3 := blk_frozen BK145.out 3; have hfz69_4 := blk_frozen BK145.out 4) | ((with_reducible refine gate_dst (N := 105) rfl ?_); refine Kd.R_lit (Kd.int .u32) _ 47 (by rfl) (N := 105) (by rfl) (xs := ([] : List Int)) (inner := []) (ok := fun _ => True) (okp := fun _ => True) Z5 (Reps.none _ _) (fun _ hk => hk) trivial (Below.refl _ _) (Nat.le_refl _) (by simp) ?_; intro v186 w70 ho71 hb hg_ hnew_; clear hg_ hnew_; (first | rw [← Ny185.out] at ho71 | (simp only [Int.reduceToNat] at ho71; rw [← Ny185.out] at ho71)); have HO187 := Z (Kd.R_lower (Kd.R_new' ho71 (Kd.R_lt (Z8 HO178))) (below_size Z47)); replace HO178 := Z (Kd.R_elder' (Z8 HO178) (Kd.R_base ho71) hb); replace BK145 := Z (blk_below (g := gb145) (o := .cells #[.int .i64 a0_0, .string a0_1, .int .i32 a0_2, .bool false, .int .u32 a0_4] 51 (0, 0)) (Z13 BK145) hb); replace HB := Z (below_step Z47 hb); clear hb ho71))
          go_ret
          exact ⟨_, Z7, (Z14 HO187), Z47⟩
       ·rw [if_neg c51] at H
        have c51b0 : ((t176.length : Int) == 1) = false := beq_eq_false_iff_ne.mpr c51
        have c51b1 : ((t176.length : Int) != 1) = true := bne_iff_ne.mpr c51
        obtain ⟨y188, hy188⟩ : ∃ y_ : List Int, y_ = (([] : List Int)) := ⟨_, rfl⟩
        replace H : (some y188) = some r := by first | (rw [hy188]; with_reducible exact H) | (have H2_ := (Option.bind_some _ _).symm.trans H; rw [hy188]; with_reducible exact H2_) | (have H2_ := (Option.bind_some _ _).symm.trans H; with_reducible exact H2_) | with_reducible exact H | (rw [hy188]; exact H) | exact H
        have Ny188 := Aside0.mk hy188
        clear hy188
        obtain rfl := Option.some.inj H
        have hcz72_0 : wc.cell? ⟨gb145, 0, none⟩ = some (.int .i64 a0_0) := (blk_cell BK145.out 0).trans rfl
        have hcz72_1 : wc.cell? ⟨gb145, 1, none⟩ = some (.string a0_1) := (blk_cell BK145.out 1).trans rfl
        have hcz72_2 : wc.cell? ⟨gb145, 2, none⟩ = some (.int .i32 a0_2) := (blk_cell BK145.out 2).trans rfl
        have hcz72_3 : wc.cell? ⟨gb145, 3, none⟩ = some (.bool a0_3) := (blk_cell BK145.out 3).trans rfl
        have hcz72_4 : wc.cell? ⟨gb145, 4, none⟩ = some (.int .u32 a0_4) := (blk_cell BK145.out 4).trans rfl
        have hfz72_0 := blk_frozen BK145.out 0
        have hfz72_1 := blk_frozen BK145.out 1
        have hfz72_2 := blk_frozen BK145.out 2
        have hfz72_3 := blk_frozen BK145.out 3
        have hfz72_4 := blk_frozen BK145.out 4
        go_wp2_with (first | ((with_reducible refine gate_callee (f := 109) rfl ?_); refine goesL_ (some 85) rfl rfl Try.func109 Z0 rfl #[.int .u32 12, .string a0_1] rfl Z9 ?_; (with_reducible refine (spec_l04Word.calls kj1 12 a0_1 t176 _ A50.out).mono ?_); rintro e w73 ⟨v177, rfl, ho0, hb⟩; refine ⟨_, rfl, ?_⟩; have HO178 := Z (Kd.R_lower ho0 (below_size Z47)); replace BK145 := Z (blk_below (g := gb145) (o := .cells #[.int .i64 a0_0, .string a0_1, .int .i32 a0_2, .bool a0_3, .int .u32 a0_4] 51 (0, 0)) (Z13 BK145) hb); replace HB := Z (below_step Z47 hb); (try clear hb); (try clear hb2); (try clear hk); (try clear hi); (try clear ho0); obtain ⟨Ao74, co74, eo74⟩ := Kd.R_slice HO178.out; subst eo74) | ((with_reducible refine gate_dst (N := 105) rfl ?_); refine Kd.R_lit (Kd.int .u32) _ 47 (by rfl) (N := 105) (by rfl) (xs := ([] : List Int)) (inner := []) (ok := fun _ => True) (okp := fun _ => True) Z5 (Reps.none _ _) (fun _ hk => hk) trivial (Below.refl _ _) (Nat.le_refl _) (by simp) ?_; intro v189 w75 ho76 hb hg_ hnew_; clear hg_ hnew_; (first | rw [← Ny188.out] at ho76 | (simp only [Int.reduceToNat] at ho76; rw [← Ny188.out] at ho76)); have HO190 := Z (Kd.R_lower (Kd.R_new' ho76 (Kd.R_lt (Z8 HO178))) (below_size Z47)); replace HO178 := Z (Kd.R_elder' (Z8 HO178) (Kd.R_base ho76) hb); replace BK145 := Z (blk_below (g := gb145) (o := .cells #[.int .i64 a0_0, .string a0_1, .int .i32 a0_2, .bool a0_3, .int .u32 a0_4] 51 (0, 0)) (Z13 BK145) hb); replace HB := Z (below_step Z47 hb); clear hb ho76))
        go_ret
        exact ⟨_, Z7, (Z14 HO190), Z47⟩
      ·rw [if_neg c49] at H
       have c49b0 : (a0_0 == 9) = false := beq_eq_false_iff_ne.mpr c49
       have c49b1 : (a0_0 != 9) = true := bne_iff_ne.mpr c49
       replace H := Option.bind_eq_some_iff.mp H
       obtain ⟨t191, A770, H⟩ := H
       replace H : (if t191 > 0 then (if x3_1 = true then ((spec_l04Word.f kj1 t191 a0_1).bind fun t192 => (some t192)) else (some (([] : List Int)))) else (some (([] : List Int)))) = some r := H
       have A77 := Aside0.mk A770
       clear A770
       by_cases c78 : t191 > 0
       ·rw [if_pos c78] at H
        have c78b0 : decide (0 < t191) = true := decide_eq_true c78
        clear c78
        by_cases c79 : x3_1 = true
        ·subst c79
         have H1 : ((spec_l04Word.f kj1 t191 a0_1).bind fun t192 => (some t192)) = some r := Z4
         clear H
         have H := H1
         clear H1
         replace H := Option.bind_eq_some_iff.mp H
         obtain ⟨t192, A800, H⟩ := H
         replace H : (some t192) = some r := H
         have A80 := Aside0.mk A800
         clear A800
         obtain rfl := Option.some.inj H
         have hcz81_0 : wc.cell? ⟨gb145, 0, none⟩ = some (.int .i64 a0_0) := (blk_cell BK145.out 0).trans rfl
         have hcz81_1 : wc.cell? ⟨gb145, 1, none⟩ = some (.string a0_1) := (blk_cell BK145.out 1).trans rfl
         have hcz81_2 : wc.cell? ⟨gb145, 2, none⟩ = some (.int .i32 a0_2) := (blk_cell BK145.out 2).trans rfl
         have hcz81_3 : wc.cell? ⟨gb145, 3, none⟩ = some (.bool a0_3) := (blk_cell BK145.out 3).trans rfl
         have hcz81_4 : wc.cell? ⟨gb145, 4, none⟩ = some (.int .u32 a0_4) := (blk_cell BK145.out 4).trans rfl
         have hfz81_0 := blk_frozen BK145.out 0
         have hfz81_1 := blk_frozen BK145.out 1
         have hfz81_2 := blk_frozen BK145.out 2
         have hfz81_3 := blk_frozen BK145.out 3
         have hfz81_4 := blk_frozen BK145.out 4
         go_wp2_with (first | ((with_reducible refine gate_callee (f := 110) rfl ?_); refine goesL_ (some 23) rfl rfl Try.func110 Z0 rfl #[.int .i64 a0_0] rfl Z9 ?_; (with_reducible refine (spec_l04Tag.calls a0_0 t191 _ A77.out).mono ?_); rintro e w' ⟨rfl, ⟨nd, rfl⟩⟩; refine ⟨_, rfl, ?_⟩) | ((with_reducible refine gate_callee (f := 109) rfl ?_); refine goesL_ (some 32) rfl rfl Try.func109 Z0 rfl #[.int .u32 t191, .string a0_1] rfl Z9 ?_; (with_reducible refine (spec_l04Word.calls kj1 t191 a0_1 t192 _ A80.out).mono ?_); rintro e w82 ⟨v193, rfl, ho0, hb⟩; refine ⟨_, rfl, ?_⟩; have HO194 := Z (Kd.R_lower ho0 (below_size Z47)); replace BK145 := Z (blk_below (g := gb145) (o := .cells #[.int .i64 a0_0, .string a0_1, .int .i32 a0_2, .bool a0_3, .int .u32 a0_4] 51 (0, 0)) (Z13 BK145) hb); replace HB := Z (below_step Z47 hb); (try clear hb); (try clear hb2); (try clear hk); (try clear hi); (try clear ho0)))
         go_ret
         exact ⟨_, Z7, (Z8 HO194), Z47⟩
        ·replace c79 := Bool.eq_false_iff.mpr c79
         subst c79
         have H1 : (some (([] : List Int))) = some r := by rw [if_neg (show ¬ (false = true) by decide)] at H; exact H
         clear H
         have H := H1
         clear H1
         obtain ⟨y195, hy195⟩ : ∃ y_ : List Int, y_ = (([] : List Int)) := ⟨_, rfl⟩
         replace H : (some y195) = some r := by first | (rw [hy195]; with_reducible exact H) | (have H2_ := (Option.bind_some _ _).symm.trans H; rw [hy195]; with_reducible exact H2_) | (have H2_ := (Option.bind_some _ _).symm.trans H; with_reducible exact H2_) | with_reducible exact H | (rw [hy195]; exact H) | exact H
         have Ny195 := Aside0.mk hy195
         clear hy195
         obtain rfl := Option.some.inj H
         have hcz83_0 : wc.cell? ⟨gb145, 0, none⟩ = some (.int .i64 a0_0) := (blk_cell BK145.out 0).trans rfl
         have hcz83_1 : wc.cell? ⟨gb145, 1, none⟩ = some (.string a0_1) := (blk_cell BK145.out 1).trans rfl
         have hcz83_2 : wc.cell? ⟨gb145, 2, none⟩ = some (.int .i32 a0_2) := (blk_cell BK145.out 2).trans rfl
         have hcz83_3 : wc.cell? ⟨gb145, 3, none⟩ = some (.bool a0_3) := (blk_cell BK145.out 3).trans rfl
         have hcz83_4 : wc.cell? ⟨gb145, 4, none⟩ = some (.int .u32 a0_4) := (blk_cell BK145.out 4).trans rfl
         have hfz83_0 := blk_frozen BK145.out 0
         have hfz83_1 := blk_frozen BK145.out 1
         have hfz83_2 := blk_frozen BK145.out 2
         have hfz83_3 := blk_frozen BK145.out 3
         have hfz83_4 := blk_frozen BK145.out 4
         go_wp2_with (first | ((with_reducible refine gate_callee (f := 110) rfl ?_); refine goesL_ (some 23) rfl rfl Try.func110 Z0 rfl #[.int .i64 a0_0] rfl Z9 ?_; (with_reducible refine (spec_l04Tag.calls a0_0 t191 _ A77.out).mono ?_); rintro e w' ⟨rfl, ⟨nd, rfl⟩⟩; refine ⟨_, rfl, ?_⟩) | ((with_reducible refine gate_dst (N := 105) rfl ?_); refine Kd.R_lit (Kd.int .u32) _ 47 (by rfl) (N := 105) (by rfl) (xs := ([] : List Int)) (inner := []) (ok := fun _ => True) (okp := fun _ => True) Z5 (Reps.none _ _) (fun _ hk => hk) trivial (Below.refl _ _) (Nat.le_refl _) (by simp) ?_; intro v196 w84 ho85 hb hg_ hnew_; clear hg_ hnew_; (first | rw [← Ny195.out] at ho85 | (simp only [Int.reduceToNat] at ho85; rw [← Ny195.out] at ho85)); have HO197 := Z (Kd.R_lower ho85 (below_size Z47)); replace BK145 := Z (blk_below (g := gb145) (o := .cells #[.int .i64 a0_0, .string a0_1, .int .i32 a0_2, .bool a0_3, .int .u32 a0_4] 51 (0, 0)) (Z13 BK145) hb); replace HB := Z (below_step Z47 hb); clear hb ho85))
         go_ret
         exact ⟨_, Z7, (Z8 HO197), Z47⟩
       ·rw [if_neg c78] at H
        have c78b0 : decide (0 < t191) = false := decide_eq_false c78
        clear c78
        obtain ⟨y198, hy198⟩ : ∃ y_ : List Int, y_ = (([] : List Int)) := ⟨_, rfl⟩
        replace H : (some y198) = some r := by first | (rw [hy198]; with_reducible exact H) | (have H2_ := (Option.bind_some _ _).symm.trans H; rw [hy198]; with_reducible exact H2_) | (have H2_ := (Option.bind_some _ _).symm.trans H; with_reducible exact H2_) | with_reducible exact H | (rw [hy198]; exact H) | exact H
        have Ny198 := Aside0.mk hy198
        clear hy198
        obtain rfl := Option.some.inj H
        have hcz86_0 : wc.cell? ⟨gb145, 0, none⟩ = some (.int .i64 a0_0) := (blk_cell BK145.out 0).trans rfl
        have hcz86_1 : wc.cell? ⟨gb145, 1, none⟩ = some (.string a0_1) := (blk_cell BK145.out 1).trans rfl
        have hcz86_2 : wc.cell? ⟨gb145, 2, none⟩ = some (.int .i32 a0_2) := (blk_cell BK145.out 2).trans rfl
        have hcz86_3 : wc.cell? ⟨gb145, 3, none⟩ = some (.bool a0_3) := (blk_cell BK145.out 3).trans rfl
        have hcz86_4 : wc.cell? ⟨gb145, 4, none⟩ = some (.int .u32 a0_4) := (blk_cell BK145.out 4).trans rfl
        have hfz86_0 := blk_frozen BK145.out 0
        have hfz86_1 := blk_frozen BK145.out 1
        have hfz86_2 := blk_frozen BK145.out 2
        have hfz86_3 := blk_frozen BK145.out 3
        have hfz86_4 := blk_frozen BK145.out 4
        go_wp2_with (first | ((with_reducible refine gate_callee (f := 110) rfl ?_); refine goesL_ (some 23) rfl rfl Try.func110 Z0 rfl #[.int .i64 a0_0] rfl Z9 ?_; (with_reducible refine (spec_l04Tag.calls a0_0 t191 _ A77.out).mono ?_); rintro e w' ⟨rfl, ⟨nd, rfl⟩⟩; refine ⟨_, rfl, ?_⟩) | ((with_reducible refine gate_dst (N := 105) rfl ?_); refine Kd.R_lit (Kd.int .u32) _ 47 (by rfl) (N := 105) (by rfl) (xs := ([] : List Int)) (inner := []) (ok := fun _ => True) (okp := fun _ => True) Z5 (Reps.none _ _) (fun _ hk => hk) trivial (Below.refl _ _) (Nat.le_refl _) (by simp) ?_; intro v199 w87 ho88 hb hg_ hnew_; clear hg_ hnew_; (first | rw [← Ny198.out] at ho88 | (simp only [Int.reduceToNat] at ho88; rw [← Ny198.out] at ho88)); have HO200 := Z (Kd.R_lower ho88 (below_size Z47)); replace BK145 := Z (blk_below (g := gb145) (o := .cells #[.int .i64 a0_0, .string a0_1, .int .i32 a0_2, .bool a0_3, .int .u32 a0_4] 51 (0, 0)) (Z13 BK145) hb); replace HB := Z (below_step Z47 hb); clear hb ho88))
        go_ret
        exact ⟨_, Z7, (Z8 HO200), Z47⟩

end Go.Proofs.Ytkkiibjnpkjijaa.QFnColor
