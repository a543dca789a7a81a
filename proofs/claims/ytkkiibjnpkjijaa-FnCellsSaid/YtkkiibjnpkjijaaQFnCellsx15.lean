/-
Plain functions for the Go functions that a law reaches, each with a proof that the translation's call comes to just that; no conditions beyond those written in each.
-/
import Derived.Test.YtkkiibjnpkjijaaSFnCells
import Derived.Test.YtkkiibjnpkjijaaQFnCellsx2
import Derived.Test.YtkkiibjnpkjijaaQFnCellsx5
import Derived.Test.YtkkiibjnpkjijaaQFnCellsx10
import Derived.Test.YtkkiibjnpkjijaaQFnCellsx14
namespace Go.Proofs.Ytkkiibjnpkjijaa.QFnCells
open Go.RowKit Go.Proofs.YtkkiibjnpkjijaaW.PrintWords Go.Proofs.YtkkiibjnpkjijaaW.PrintLast Go.Proofs.YtkkiibjnpkjijaaW.PrintMore
attribute [local go_sem] max2_int min2_int max_two min_two max_three min_three max_four min_four   -- for this text's walks alone
set_option linter.unusedVariables false
set_option linter.unusedSimpArgs false

/-! ### laws_FnCells: function 3 -/
def laws_FnCells.j0 : Nat → List Int → List (S51) → List Int → Bool → Option (Bool)
 | 0, _, _, _, _ => none
 | k + 1, x3, x4, x5, x33 => if x33 = true then (some false) else ((laws_padded.f k x5).bind fun t670 => ((laws_padded.f k x3).bind fun t673 => ((laws_sameCells.f k t670 t673).bind fun t676 => (if t676 = true then ((impl_ListOk.f k x4).bind fun t677 => (some t677)) else (some false)))))
def laws_FnCells.f (k : Nat) (l0 : List Int) : Option (Bool) := (laws_big.f l0).bind fun t656 => (if t656 = true then (some true) else ((spec_DrawParseCells.f k l0).bind fun t657 => ((impl_ParseCells.f k t657).bind fun t660 => (if (t657.length : Int) > 64 then (some ((t660.length : Int) == 0)) else ((impl_Unparse.f k t660).bind fun bt663 => (if bt663.2 = true then ((spec_ParseCells.f k t657).bind fun t667 => (laws_FnCells.j0 k t657 t660 bt663.1 ((t660.length : Int) != (t667.length : Int)))) else (laws_FnCells.j0 k t657 t660 bt663.1 true)))))))
theorem laws_FnCells.mono_l : ∀ k, (∀ y0 y1 y2 y3, LeO (laws_FnCells.j0 k y0 y1 y2 y3) (laws_FnCells.j0 (k + 1) y0 y1 y2 y3))
 | 0 => fun _ _ _ _ r h => by simp [laws_FnCells.j0] at h
 | k + 1 => by
  have ih0 := laws_FnCells.mono_l k
  ·intro y0 y1 y2 y3
   unfold laws_FnCells.j0
   repeat' first
   | (with_reducible exact ih0 _ _ _ _)
   | (with_reducible exact impl_ListOk.mono _ _)
   | (with_reducible exact impl_ParseCells.mono _ _)
   | (with_reducible exact impl_Unparse.mono _ _)
   | (with_reducible exact laws_padded.mono _ _)
   | (with_reducible exact laws_sameCells.mono _ _ _)
   | (with_reducible exact spec_DrawParseCells.mono _ _)
   | (with_reducible exact spec_ParseCells.mono _ _)
   | (with_reducible exact LeO.refl _)
   | (with_reducible exact LeO.none _)
   | (with_reducible refine LeO.ite ?_ ?_)
   | (with_reducible refine LeO.bind ?_ (fun _ => ?_))
   | exact ih0 _ _ _ _
   | exact impl_ListOk.mono _ _
   | exact impl_ParseCells.mono _ _
   | exact impl_Unparse.mono _ _
   | exact laws_padded.mono _ _
   | exact laws_sameCells.mono _ _ _
   | exact spec_DrawParseCells.mono _ _
   | exact spec_ParseCells.mono _ _
   | exact LeO.none _
   | refine LeO.ite ?_ ?_
   | refine LeO.bind ?_ (fun _ => ?_)
theorem laws_FnCells.mono : ∀ a0 k, LeO (laws_FnCells.f k a0) (laws_FnCells.f (k + 1) a0) := by
 intro a0 k
 have ih0 := laws_FnCells.mono_l k
 unfold laws_FnCells.f
 repeat' first
   | (with_reducible exact ih0 _ _ _ _)
   | (with_reducible exact impl_ListOk.mono _ _)
   | (with_reducible exact impl_ParseCells.mono _ _)
   | (with_reducible exact impl_Unparse.mono _ _)
   | (with_reducible exact laws_padded.mono _ _)
   | (with_reducible exact laws_sameCells.mono _ _ _)
   | (with_reducible exact spec_DrawParseCells.mono _ _)
   | (with_reducible exact spec_ParseCells.mono _ _)
   | (with_reducible exact LeO.refl _)
   | (with_reducible exact LeO.none _)
   | (with_reducible refine LeO.ite ?_ ?_)
   | (with_reducible refine LeO.bind ?_ (fun _ => ?_))
   | exact ih0 _ _ _ _
   | exact impl_ListOk.mono _ _
   | exact impl_ParseCells.mono _ _
   | exact impl_Unparse.mono _ _
   | exact laws_padded.mono _ _
   | exact laws_sameCells.mono _ _ _
   | exact spec_DrawParseCells.mono _ _
   | exact spec_ParseCells.mono _ _
   | exact LeO.none _
   | refine LeO.ite ?_ ?_
   | refine LeO.bind ?_ (fun _ => ?_)
set_option maxHeartbeats 8000000 in
set_option maxRecDepth 100000 in
theorem laws_FnCells.calls (k : Nat) (A0 : Option Addr) (c0 : Nat) (l0 : List Int) (r : Bool) (w : World) (hr0 : Kd.C (Kd.int .u8) w A0 l0.length l0) (hc0 : l0.length ≤ c0) (h : laws_FnCells.f k l0 = some r) :
  Calls Try.prog 3 #[.slice A0 l0.length c0] w fun e w' => e = .returned (.bool r) ∧ Below w.heap.size w w' := by
 have HR0 := Aside0.mk hr0
 have HC0 := Aside0.mk hc0
 clear hr0 hc0
 have HB := Z (Below.refl w.heap.size w)
 have H : ((laws_big.f l0).bind fun t656 => (if t656 = true then (some true) else ((spec_DrawParseCells.f k l0).bind fun t657 => ((impl_ParseCells.f k t657).bind fun t660 => (if (t657.length : Int) > 64 then (some ((t660.length : Int) == 0)) else ((impl_Unparse.f k t660).bind fun bt663 => (if bt663.2 = true then ((spec_ParseCells.f k t657).bind fun t667 => (laws_FnCells.j0 k t657 t660 bt663.1 ((t660.length : Int) != (t667.length : Int)))) else (laws_FnCells.j0 k t657 t660 bt663.1 true)))))))) = some r := h
 clear h
 replace H := Option.bind_eq_some_iff.mp H
 obtain ⟨t656, A20, H⟩ := H
 replace H : (if t656 = true then (some true) else ((spec_DrawParseCells.f k l0).bind fun t657 => ((impl_ParseCells.f k t657).bind fun t660 => (if (t657.length : Int) > 64 then (some ((t660.length : Int) == 0)) else ((impl_Unparse.f k t660).bind fun bt663 => (if bt663.2 = true then ((spec_ParseCells.f k t657).bind fun t667 => (laws_FnCells.j0 k t657 t660 bt663.1 ((t660.length : Int) != (t667.length : Int)))) else (laws_FnCells.j0 k t657 t660 bt663.1 true))))))) = some r := H
 have A2 := Aside0.mk A20
 clear A20
 by_cases c3 : t656 = true
 ·subst c3
  have H1 : (some true) = some r := Z11
  clear H
  have H := H1
  clear H1
  obtain rfl := Option.some.inj H
  go_enter Try.func3, Try.ntmps3
  go_wp2_with (first | ((with_reducible refine gate_callee (f := 13) rfl ?_); refine goesL_ (some 8) rfl rfl Try.func13 Z0 rfl #[.slice A0 l0.length c0] rfl Z10 ?_; (with_reducible refine (laws_big.calls _ _ l0 true _ ?side1 ?side2 A2.out).mono ?_); (case side1 => exact (Z61 HR0)); (case side2 => exact HC0.out); rintro e w' ⟨rfl, ⟨nd, rfl⟩⟩; refine ⟨_, rfl, ?_⟩))
  go_ret
  exact ⟨Z9, Z63⟩
 ·replace c3 := Bool.eq_false_iff.mpr c3
  subst c3
  have H1 : ((spec_DrawParseCells.f k l0).bind fun t657 => ((impl_ParseCells.f k t657).bind fun t660 => (if (t657.length : Int) > 64 then (some ((t660.length : Int) == 0)) else ((impl_Unparse.f k t660).bind fun bt663 => (if bt663.2 = true then ((spec_ParseCells.f k t657).bind fun t667 => (laws_FnCells.j0 k t657 t660 bt663.1 ((t660.length : Int) != (t667.length : Int)))) else (laws_FnCells.j0 k t657 t660 bt663.1 true)))))) = some r := by rw [if_neg (show ¬ (false = true) by decide)] at H; exact H
  clear H
  have H := H1
  clear H1
  replace H := Option.bind_eq_some_iff.mp H
  obtain ⟨t657, A40, H⟩ := H
  replace H : ((impl_ParseCells.f k t657).bind fun t660 => (if (t657.length : Int) > 64 then (some ((t660.length : Int) == 0)) else ((impl_Unparse.f k t660).bind fun bt663 => (if bt663.2 = true then ((spec_ParseCells.f k t657).bind fun t667 => (laws_FnCells.j0 k t657 t660 bt663.1 ((t660.length : Int) != (t667.length : Int)))) else (laws_FnCells.j0 k t657 t660 bt663.1 true))))) = some r := H
  have A4 := Aside0.mk A40
  clear A40
  replace H := Option.bind_eq_some_iff.mp H
  obtain ⟨t660, A50, H⟩ := H
  replace H : (if (t657.length : Int) > 64 then (some ((t660.length : Int) == 0)) else ((impl_Unparse.f k t660).bind fun bt663 => (if bt663.2 = true then ((spec_ParseCells.f k t657).bind fun t667 => (laws_FnCells.j0 k t657 t660 bt663.1 ((t660.length : Int) != (t667.length : Int)))) else (laws_FnCells.j0 k t657 t660 bt663.1 true)))) = some r := H
  have A5 := Aside0.mk A50
  clear A50
  by_cases c6 : (t657.length : Int) > 64
  ·rw [if_pos c6] at H
   have c6b0 : decide (64 < (t657.length : Int)) = true := decide_eq_true c6
   have c6b1 : decide (64 < t657.length) = true := decide_eq_true (by omega)
   clear c6
   obtain rfl := Option.some.inj H
   go_enter Try.func3, Try.ntmps3
   go_wp2_with (first | ((with_reducible refine gate_callee (f := 13) rfl ?_); refine goesL_ (some 8) rfl rfl Try.func13 Z0 rfl #[.slice A0 l0.length c0] rfl Z10 ?_; (with_reducible refine (laws_big.calls _ _ l0 false _ ?side1 ?side2 A2.out).mono ?_); (case side1 => exact (Z61 HR0)); (case side2 => exact HC0.out); rintro e w' ⟨rfl, ⟨nd, rfl⟩⟩; refine ⟨_, rfl, ?_⟩) | ((with_reducible refine gate_callee (f := 14) rfl ?_); refine goesL_ (some 10) rfl rfl Try.func14 Z0 rfl #[.slice A0 l0.length c0] rfl Z10 ?_; (with_reducible refine (spec_DrawParseCells.calls k _ _ l0 t657 _ ?side1 ?side2 A4.out).mono ?_); (case side1 => exact (Z61 HR0)); (case side2 => exact HC0.out); rintro e w7 ⟨v658, rfl, ho0, hb⟩; refine ⟨_, rfl, ?_⟩; have HO659 := Z (Kd.R_lower ho0 (below_size Z63)); replace HB := Z (below_step Z63 hb); (try clear hb); (try clear hb2); (try clear hk); (try clear hi); (try clear ho0); obtain ⟨Ao8, co8, eo8⟩ := Kd.R_slice HO659.out; subst eo8) | ((with_reducible refine gate_callee (f := 15) rfl ?_); refine goesL_ (some 12) rfl rfl Try.func15 Z0 rfl #[.slice Ao8 t657.length co8] rfl Z10 ?_; (with_reducible refine (impl_ParseCells.calls k (fun k_ => some k_ = (.slice Ao8 t657.length co8 : Value).ownBlock) _ _ t657 t660 _ ?side1 A5.out).mono ?_); (case side1 => exact Kd.R_V (Kd.R_tight rfl (HO659.out))); rintro e w9 ⟨v661, rfl, ho0, hb⟩; refine ⟨_, rfl, ?_⟩; replace HO659 := Z (Kd.R_below (Z12 HO659) hb); have HO662 := Z (Kd.R_lower (Kd.R_mono (ok' := fun k_ => True) ho0 (fun _ hk_ => trivial)) (below_size Z63)); replace HB := Z (below_step Z63 hb); (try clear hb); (try clear hb2); (try clear hk); (try clear hi); (try clear ho0); obtain ⟨Ao10, co10, eo10⟩ := Kd.R_slice HO662.out; subst eo10))
   go_ret
   exact ⟨Z9, Z63⟩
  ·rw [if_neg c6] at H
   have c6b0 : decide (64 < (t657.length : Int)) = false := decide_eq_false c6
   have c6b1 : decide (64 < t657.length) = false := decide_eq_false (by omega)
   clear c6
   replace H := Option.bind_eq_some_iff.mp H
   obtain ⟨⟨t663, t664⟩, A110, H⟩ := H
   replace H : (if t664 = true then ((spec_ParseCells.f k t657).bind fun t667 => (laws_FnCells.j0 k t657 t660 t663 ((t660.length : Int) != (t667.length : Int)))) else (laws_FnCells.j0 k t657 t660 t663 true)) = some r := H
   have A11 := Aside0.mk A110
   clear A110
   have HC12 := Aside0.mk H
   clear H
   go_enter Try.func3, Try.ntmps3
   go_upto_region 8 with (first | ((with_reducible refine gate_callee (f := 13) rfl ?_); refine goesL_ (some 8) rfl rfl Try.func13 Z0 rfl #[.slice A0 l0.length c0] rfl Z10 ?_; (with_reducible refine (laws_big.calls _ _ l0 false _ ?side1 ?side2 A2.out).mono ?_); (case side1 => exact (Z61 HR0)); (case side2 => exact HC0.out); rintro e w' ⟨rfl, ⟨nd, rfl⟩⟩; refine ⟨_, rfl, ?_⟩) | ((with_reducible refine gate_callee (f := 14) rfl ?_); refine goesL_ (some 10) rfl rfl Try.func14 Z0 rfl #[.slice A0 l0.length c0] rfl Z10 ?_; (with_reducible refine (spec_DrawParseCells.calls k _ _ l0 t657 _ ?side1 ?side2 A4.out).mono ?_); (case side1 => exact (Z61 HR0)); (case side2 => exact HC0.out); rintro e w13 ⟨v658, rfl, ho0, hb⟩; refine ⟨_, rfl, ?_⟩; have HO659 := Z (Kd.R_lower ho0 (below_size Z63)); replace HB := Z (below_step Z63 hb); (try clear hb); (try clear hb2); (try clear hk); (try clear hi); (try clear ho0); obtain ⟨Ao14, co14, eo14⟩ := Kd.R_slice HO659.out; subst eo14) | ((with_reducible refine gate_callee (f := 15) rfl ?_); refine goesL_ (some 12) rfl rfl Try.func15 Z0 rfl #[.slice Ao14 t657.length co14] rfl Z10 ?_; (with_reducible refine (impl_ParseCells.calls k (fun k_ => some k_ = (.slice Ao14 t657.length co14 : Value).ownBlock) _ _ t657 t660 _ ?side1 A5.out).mono ?_); (case side1 => exact Kd.R_V (Kd.R_tight rfl (HO659.out))); rintro e w15 ⟨v661, rfl, ho0, hb⟩; refine ⟨_, rfl, ?_⟩; replace HO659 := Z (Kd.R_below (Z12 HO659) hb); have HO662 := Z (Kd.R_lower (Kd.R_mono (ok' := fun k_ => True) ho0 (fun _ hk_ => trivial)) (below_size Z63)); replace HB := Z (below_step Z63 hb); (try clear hb); (try clear hb2); (try clear hk); (try clear hi); (try clear ho0); obtain ⟨Ao16, co16, eo16⟩ := Kd.R_slice HO662.out; subst eo16) | ((with_reducible refine gate_callee (f := 16) rfl ?_); refine goesL_ (some 21) rfl rfl Try.func16 Z0 rfl #[.slice Ao16 t660.length co16] rfl Z10 ?_; (with_reducible refine (impl_Unparse.calls k _ _ t660 t663 t664 _ ?side1 ?side2 A11.out).mono ?_); (case side1 => exact (Z17 HO662)); (case side2 => exact (Kd.R_reads' HO662.out).2.1); rintro e w17 ⟨v665, rfl, ho0, hb⟩; refine ⟨_, rfl, ?_⟩; replace HO662 := Z (Kd.R_below (Z12 HO662) hb); have HO666 := Z (Kd.R_lower (Kd.R_new' ho0 (Kd.R_lt (Z12 HO659))) (below_size Z63)); replace HO659 := Z (Kd.R_elder' (Z12 HO659) (Kd.R_base ho0) hb); replace HB := Z (below_step Z63 hb); (try clear hb); (try clear hb2); (try clear hk); (try clear hi); (try clear ho0)))
   (try simp only [Act.put, List.setIfInBounds_toArray, List.set_cons_zero, List.set_cons_succ])
   go_cut [33] (fun v33 wc => ∃ (kq : Nat) (x33_11 : Bool), v33 = .bool x33_11 ∧ Aside0 (laws_FnCells.j0 kq t657 t660 t663 x33_11 = some r) ∧ Aside0 (kq ≤ k) ∧ Aside0 (Kd.R (Kd.int .u32) 47 wc w.heap.size (fun k_ => some k_ ≠ (v665 : Value).ownBlock) (.slice Ao14 t657.length co14) t657) ∧ Aside0 (Kd.R k51 51 wc w.heap.size (fun _ => True) (.slice Ao16 t660.length co16) t660) ∧ Aside0 (Kd.R (Kd.int .u32) 47 wc w.heap.size (fun k_ => some k_ ≠ ((.slice Ao14 t657.length co14) : Value).ownBlock) v665 t663) ∧ Aside0 (Below w.heap.size w wc))
   case first =>
    have H := HC12.out
    clear HC12
    by_cases c18 : t664 = true
    ·subst c18
     have H1 : ((spec_ParseCells.f k t657).bind fun t667 => (laws_FnCells.j0 k t657 t660 t663 ((t660.length : Int) != (t667.length : Int)))) = some r := Z11
     clear H
     have H := H1
     clear H1
     replace H := Option.bind_eq_some_iff.mp H
     obtain ⟨t667, A190, H⟩ := H
     replace H : (laws_FnCells.j0 k t657 t660 t663 ((t660.length : Int) != (t667.length : Int))) = some r := H
     have A19 := Aside0.mk A190
     clear A190
     have H' := Aside0.mk H
     clear H
     go_wp2_with (first | (go_at_call 17; (with_reducible refine (spec_ParseCells.calls k _ _ t657 t667 _ ?side1 ?side2 A19.out).mono ?_); (case side1 => exact (Z17 HO659)); (case side2 => exact (Kd.R_reads' HO659.out).2.1); rintro e w20 ⟨v668, rfl, ho0, hb⟩; replace HO659 := Z (Kd.R_below (Z12 HO659) hb); replace HO666 := Z (Kd.R_below (Z12 HO666) hb); have HO669 := Z (Kd.R_lower (Kd.R_new' ho0 (Kd.R_lt (Z12 HO662))) (below_size Z63)); replace HO662 := Z (Kd.R_elder' (Z12 HO662) (Kd.R_base ho0) hb); replace HB := Z (below_step Z63 hb); (try clear hb); (try clear hb2); (try clear hk); (try clear hi); (try clear ho0); obtain ⟨Ao21, co21, eo21⟩ := Kd.R_slice HO669.out; subst eo21))
     go_meet
     case rel => exact ⟨_, (((t660.length : Int) != (t667.length : Int))), Z2, H', ⟨Z15⟩, ⟨(Z18 HO659)⟩, ⟨(Z16 HO662)⟩, ⟨(Z18 HO666)⟩, ⟨Z63⟩⟩
    ·replace c18 := Bool.eq_false_iff.mpr c18
     subst c18
     have H1 : (laws_FnCells.j0 k t657 t660 t663 true) = some r := by rw [if_neg (show ¬ (false = true) by decide)] at H; exact H
     clear H
     have H := H1
     clear H1
     have H' := Aside0.mk H
     clear H
     go_wp2
     go_meet
     case rel => exact ⟨_, (true), Z2, H', ⟨Z15⟩, ⟨(Z18 HO659)⟩, ⟨(Z12 HO662)⟩, ⟨(Z18 HO666)⟩, ⟨Z63⟩⟩
   case rest =>
    clear HC12
    try clear c1
    try clear p2
    try clear c3
    try clear c6
    try clear c6b0
    try clear c6b1
    try clear c13
    try clear c14
    try clear c15
    try clear c16
    try clear c18
    obtain ⟨kq, x33_11, rfl, HA, HJ11, HO_3, HO_4, HO_5, HB⟩ := hcut
    cases kq with
    | zero => exact absurd HA.out (by simp [laws_FnCells.j0])
    | succ kj11 =>
     have H := HA.out
     clear HA
     simp only [laws_FnCells.j0] at H
     by_cases c22 : x33_11 = true
     ·subst c22
      have H1 : (some false) = some r := Z11
      clear H
      have H := H1
      clear H1
      obtain rfl := Option.some.inj H
      go_wp2
      go_ret
      exact ⟨Z9, Z63⟩
     ·replace c22 := Bool.eq_false_iff.mpr c22
      subst c22
      have H1 : ((laws_padded.f kj11 t663).bind fun t670 => ((laws_padded.f kj11 t657).bind fun t673 => ((laws_sameCells.f kj11 t670 t673).bind fun t676 => (if t676 = true then ((impl_ListOk.f kj11 t660).bind fun t677 => (some t677)) else (some false))))) = some r := by rw [if_neg (show ¬ (false = true) by decide)] at H; exact H
      clear H
      have H := H1
      clear H1
      replace H := Option.bind_eq_some_iff.mp H
      obtain ⟨t670, A230, H⟩ := H
      replace H : ((laws_padded.f kj11 t657).bind fun t673 => ((laws_sameCells.f kj11 t670 t673).bind fun t676 => (if t676 = true then ((impl_ListOk.f kj11 t660).bind fun t677 => (some t677)) else (some false)))) = some r := H
      have A23 := Aside0.mk A230
      clear A230
      replace H := Option.bind_eq_some_iff.mp H
      obtain ⟨t673, A240, H⟩ := H
      replace H : ((laws_sameCells.f kj11 t670 t673).bind fun t676 => (if t676 = true then ((impl_ListOk.f kj11 t660).bind fun t677 => (some t677)) else (some false))) = some r := H
      have A24 := Aside0.mk A240
      clear A240
      replace H := Option.bind_eq_some_iff.mp H
      obtain ⟨t676, A250, H⟩ := H
      replace H : (if t676 = true then ((impl_ListOk.f kj11 t660).bind fun t677 => (some t677)) else (some false)) = some r := H
      have A25 := Aside0.mk A250
      clear A250
      by_cases c26 : t676 = true
      ·subst c26
       have H1 : ((impl_ListOk.f kj11 t660).bind fun t677 => (some t677)) = some r := Z11
       clear H
       have H := H1
       clear H1
       replace H := Option.bind_eq_some_iff.mp H
       obtain ⟨t677, A270, H⟩ := H
       replace H : (some t677) = some r := H
       have A27 := Aside0.mk A270
       clear A270
       obtain rfl := Option.some.inj H
       obtain ⟨Ao28, co28, eo28⟩ := Kd.R_slice HO_5.out
       subst eo28
       go_wp2_with (first | ((with_reducible refine gate_callee (f := 19) rfl ?_); refine goesL_ (some 35) rfl rfl Try.func19 Z0 rfl #[.slice Ao28 t663.length co28] rfl Z10 ?_; (with_reducible refine (laws_padded.calls kj11 _ _ t663 t670 _ ?side1 ?side2 A23.out).mono ?_); (case side1 => exact (Z17 HO_5)); (case side2 => exact (Kd.R_reads' HO_5.out).2.1); rintro e w29 ⟨v671, rfl, ho0, hb⟩; refine ⟨_, rfl, ?_⟩; replace HO_4 := Z (Kd.R_below (Z12 HO_4) hb); have HO672 := Z (Kd.R_lower (Kd.R_new' (Kd.R_new' ho0 (Kd.R_lt (Z12 HO_3))) (Kd.R_lt (Z12 HO_5))) (below_size Z63)); replace HO_3 := Z (Kd.R_elder' (Z12 HO_3) (Kd.R_base ho0) hb); replace HO_5 := Z (Kd.R_elder' (Z12 HO_5) (Kd.R_base ho0) hb); replace HB := Z (below_step Z63 hb); (try clear hb); (try clear hb2); (try clear hk); (try clear hi); (try clear ho0)) | ((with_reducible refine gate_callee (f := 19) rfl ?_); refine goesL_ (some 37) rfl rfl Try.func19 Z0 rfl #[.slice Ao14 t657.length co14] rfl Z10 ?_; (with_reducible refine (laws_padded.calls kj11 _ _ t657 t673 _ ?side1 ?side2 A24.out).mono ?_); (case side1 => exact (Z17 HO_3)); (case side2 => exact (Kd.R_reads' HO_3.out).2.1); rintro e w30 ⟨v674, rfl, ho0, hb⟩; refine ⟨_, rfl, ?_⟩; replace HO_4 := Z (Kd.R_below (Z12 HO_4) hb); have HO675 := Z (Kd.R_lower (Kd.R_new' (Kd.R_new' (Kd.R_new' ho0 (Kd.R_lt (Z12 HO_3))) (Kd.R_lt (Z12 HO_5))) (Kd.R_lt (Z12 HO672))) (below_size Z63)); replace HO_3 := Z (Kd.R_elder' (Z12 HO_3) (Kd.R_base ho0) hb); replace HO_5 := Z (Kd.R_elder' (Z12 HO_5) (Kd.R_base ho0) hb); replace HO672 := Z (Kd.R_elder' (Z12 HO672) (Kd.R_base ho0) hb); replace HB := Z (below_step Z63 hb); (try clear hb); (try clear hb2); (try clear hk); (try clear hi); (try clear ho0); obtain ⟨Ao31, co31, eo31⟩ := Kd.R_slice HO672.out; subst eo31; obtain ⟨Ao32, co32, eo32⟩ := Kd.R_slice HO675.out; subst eo32) | ((with_reducible refine gate_callee (f := 18) rfl ?_); refine goesL_ (some 38) rfl rfl Try.func18 Z0 rfl #[.slice Ao31 t670.length co31, .slice Ao32 t673.length co32] rfl Z10 ?_; (with_reducible refine (laws_sameCells.calls kj11 _ _ t670 _ _ t673 true _ ?side1 ?side2 ?side3 ?side4 A25.out).mono ?_); (case side1 => exact (Z17 HO672)); (case side2 => exact (Kd.R_reads' HO672.out).2.1); (case side3 => exact (Z17 HO675)); (case side4 => exact (Kd.R_reads' HO675.out).2.1); rintro e w' ⟨rfl, ⟨nd, rfl⟩⟩; refine ⟨_, rfl, ?_⟩) | (go_at_call 20; (with_reducible refine (impl_ListOk.calls kj11 _ _ t660 t677 _ ?side1 ?side2 A27.out).mono ?_); (case side1 => exact (Z17 HO_4)); (case side2 => exact (Kd.R_reads' HO_4.out).2.1); rintro e w33 ⟨rfl, hb⟩; replace HO_3 := Z (Kd.R_below (Z12 HO_3) hb); replace HO_4 := Z (Kd.R_below (Z12 HO_4) hb); replace HO_5 := Z (Kd.R_below (Z12 HO_5) hb); replace HO672 := Z (Kd.R_below (Z12 HO672) hb); replace HO675 := Z (Kd.R_below (Z12 HO675) hb); replace HB := Z (below_step Z63 hb); (try clear hb); (try clear hb2); (try clear hk); (try clear hi)))
       go_ret
       exact ⟨Z9, Z63⟩
      ·replace c26 := Bool.eq_false_iff.mpr c26
       subst c26
       have H1 : (some false) = some r := by rw [if_neg (show ¬ (false = true) by decide)] at H; exact H
       clear H
       have H := H1
       clear H1
       obtain rfl := Option.some.inj H
       obtain ⟨Ao34, co34, eo34⟩ := Kd.R_slice HO_5.out
       subst eo34
       go_wp2_with (first | ((with_reducible refine gate_callee (f := 19) rfl ?_); refine goesL_ (some 35) rfl rfl Try.func19 Z0 rfl #[.slice Ao34 t663.length co34] rfl Z10 ?_; (with_reducible refine (laws_padded.calls kj11 _ _ t663 t670 _ ?side1 ?side2 A23.out).mono ?_); (case side1 => exact (Z17 HO_5)); (case side2 => exact (Kd.R_reads' HO_5.out).2.1); rintro e w35 ⟨v671, rfl, ho0, hb⟩; refine ⟨_, rfl, ?_⟩; replace HO_4 := Z (Kd.R_below (Z12 HO_4) hb); have HO672 := Z (Kd.R_lower (Kd.R_new' (Kd.R_new' ho0 (Kd.R_lt (Z12 HO_3))) (Kd.R_lt (Z12 HO_5))) (below_size Z63)); replace HO_3 := Z (Kd.R_elder' (Z12 HO_3) (Kd.R_base ho0) hb); replace HO_5 := Z (Kd.R_elder' (Z12 HO_5) (Kd.R_base ho0) hb); replace HB := Z (below_step Z63 hb); (try clear hb); (try clear hb2); (try clear hk); (try clear hi); (try clear ho0)) | ((with_reducible refine gate_callee (f := 19) rfl ?_); refine goesL_ (some 37) rfl rfl Try.func19 Z0 rfl #[.slice Ao14 t657.length co14] rfl Z10 ?_; (with_reducible refine (laws_padded.calls kj11 _ _ t657 t673 _ ?side1 ?side2 A24.out).mono ?_); (case side1 => exact (Z17 HO_3)); (case side2 => exact (Kd.R_reads' HO_3.out).2.1); rintro e w36 ⟨v674, rfl, ho0, hb⟩; refine ⟨_, rfl, ?_⟩; replace HO_4 := Z (Kd.R_below (Z12 HO_4) hb); have HO675 := Z (Kd.R_lower (Kd.R_new' (Kd.R_new' (Kd.R_new' ho0 (Kd.R_lt (Z12 HO_3))) (Kd.R_lt (Z12 HO_5))) (Kd.R_lt (Z12 HO672))) (below_size Z63)); replace HO_3 := Z (Kd.R_elder' (Z12 HO_3) (Kd.R_base ho0) hb); replace HO_5 := Z (Kd.R_elder' (Z12 HO_5) (Kd.R_base ho0) hb); replace HO672 := Z (Kd.R_elder' (Z12 HO672) (Kd.R_base ho0) hb); replace HB := Z (below_step Z63 hb); (try clear hb); (try clear hb2); (try clear hk); (try clear hi); (try clear ho0); obtain ⟨Ao37, co37, eo37⟩ := Kd.R_slice HO672.out; subst eo37; obtain ⟨Ao38, co38, eo38⟩ := Kd.R_slice HO675.out; subst eo38) | ((with_reducible refine gate_callee (f := 18) rfl ?_); refine goesL_ (some 38) rfl rfl Try.func18 Z0 rfl #[.slice Ao37 t670.length co37, .slice Ao38 t673.length co38] rfl Z10 ?_; (with_reducible refine (laws_sameCells.calls kj11 _ _ t670 _ _ t673 false _ ?side1 ?side2 ?side3 ?side4 A25.out).mono ?_); (case side1 => exact (Z17 HO672)); (case side2 => exact (Kd.R_reads' HO672.out).2.1); (case side3 => exact (Z17 HO675)); (case side4 => exact (Kd.R_reads' HO675.out).2.1); rintro e w' ⟨rfl, ⟨nd, rfl⟩⟩; refine ⟨_, rfl, ?_⟩))
       go_ret
       exact ⟨Z9, Z63⟩

/-- THE ONE PURE STATEMENT of laws_FnCells: yours. -/
def laws_FnCells.Pure : Prop := ∀ (l0 : List Int), l0.length ≤ maxLen → l0.length * 1 ≤ 140737488351232 → (∀ x ∈ l0, (Lit.int .u8 x).wf = true) → ∃ k, laws_FnCells.f k l0 = some true
theorem laws_FnCells.walk (P : laws_FnCells.Pure) (a0 : Option Addr) (len0 cap0 : Nat) (z0 : List Int) (w : World) (w0 : (a0 = none ∧ len0 = 0 ∧ cap0 = 0 ∧ z0 = []) ∨ ∃ x, a0 = some x ∧ len0 ≤ cap0 ∧ cap0 ≤ maxLen ∧ z0.length = cap0 ∧ (∀ i, i < z0.length → w.cell? (x.add i) = some (.int .u8 (z0.getD i 0))) ∧ ∀ n ∈ z0, (Lit.int .u8 n).wf = true) (y0 : len0 * 1 ≤ 140737488351232) :
  Calls Try.prog 3 #[.slice a0 len0 cap0] w fun e w' => e = .returned (.bool true) ∧ Below w.heap.size w w' := by
 obtain ⟨l0, rfl, hr0, hm0, hw0, hc0⟩ := ReadsInt.ofRowC w0
 obtain ⟨k, h⟩ := P l0 hm0 y0 hw0
 refine (laws_FnCells.calls k _ _ l0 true w (Kd.C_of_reads (d := (0 : Int)) (h1 := fun _ => rfl) hr0) hc0 h).mono ?_
 rintro e w' ⟨rfl, hd⟩
 exact ⟨rfl, hd⟩

end Go.Proofs.Ytkkiibjnpkjijaa.QFnCells
