/-
Plain functions for the Go functions that a law reaches, each with a proof that the translation's call comes to just that; no conditions beyond those written in each.
-/
import Derived.Test.YtkkiibjnpkjijaaSFnExactParseCells
import Derived.Test.YtkkiibjnpkjijaaQFnExactParseCellsx6
import Derived.Test.YtkkiibjnpkjijaaQFnExactParseCellsx12
import Derived.Test.YtkkiibjnpkjijaaQFnExactParseCellsx13
import Derived.Test.YtkkiibjnpkjijaaQFnExactParseCellsx14
namespace Go.Proofs.Ytkkiibjnpkjijaa.QFnExactParseCells
open Go.RowKit Go.Proofs.YtkkiibjnpkjijaaW.PrintWords Go.Proofs.YtkkiibjnpkjijaaW.PrintLast Go.Proofs.YtkkiibjnpkjijaaW.PrintMore
attribute [local go_sem] max2_int min2_int max_two min_two max_three min_three max_four min_four   -- for this text's walks alone
set_option linter.unusedVariables false
set_option linter.unusedSimpArgs false

/-! ### laws_FnExactParseCells: function 10 -/
def laws_FnExactParseCells.j0 : Nat → List Int → List (S51) → List (S51) → Bool → Option (Bool)
 | 0, _, _, _, _ => none
 | k + 1, x0, x3, x5, x39 => if x39 = true then (some false) else ((laws_markItemS.f k x5 1).bind fun bt498 => ((laws_heldItemS.f k bt498.2 1).bind fun t500 => (if t500 < 0 then (some false) else (if t500 = bt498.1 then ((laws_toUint32S.f k x0).bind fun t501 => ((impl_ParseCells.f k t501).bind fun t504 => ((laws_eqItemS.f k t504 x3).bind fun t507 => (if t507 = true then ((laws_heldItemS.f k bt498.2 1).bind fun t508 => (if t508 < 0 then (some false) else (if t508 = bt498.1 then (some true) else (some false)))) else (some false))))) else (some false)))))
def laws_FnExactParseCells.f (k : Nat) (l0 : List Int) : Option (Bool) := if (l0.length : Int) > 1048576 then (some true) else ((laws_toUint32S.f k l0).bind fun t478 => ((spec_ParseCells.f k t478).bind fun t481 => ((laws_toUint32S.f k l0).bind fun t484 => ((impl_ParseCells.f k t484).bind fun t487 => ((laws_eqItemS.f k t487 t481).bind fun t490 => (if t490 = true then ((laws_toUint32S.f k l0).bind fun t491 => ((laws_eqUint32S.f k t484 t491).bind fun t494 => (if t494 = true then ((laws_markUint32S.f k t484 1).bind fun bt495 => (if bt495.1 < 0 then (laws_FnExactParseCells.j0 k l0 t481 t487 true) else ((laws_eqItemS.f k t487 t481).bind fun t497 => (laws_FnExactParseCells.j0 k l0 t481 t487 (!t497))))) else (some false)))) else (some false)))))))
theorem laws_FnExactParseCells.mono_l : ∀ k, (∀ y0 y1 y2 y3, LeO (laws_FnExactParseCells.j0 k y0 y1 y2 y3) (laws_FnExactParseCells.j0 (k + 1) y0 y1 y2 y3))
 | 0 => fun _ _ _ _ r h => by simp [laws_FnExactParseCells.j0] at h
 | k + 1 => by
  have ih0 := laws_FnExactParseCells.mono_l k
  ·intro y0 y1 y2 y3
   unfold laws_FnExactParseCells.j0
   repeat' first
   | (with_reducible exact ih0 _ _ _ _)
   | (with_reducible exact impl_ParseCells.mono _ _)
   | (with_reducible exact laws_eqItemS.mono _ _ _)
   | (with_reducible exact laws_eqUint32S.mono _ _ _)
   | (with_reducible exact laws_heldItemS.mono _ _ _)
   | (with_reducible exact laws_markItemS.mono _ _ _)
   | (with_reducible exact laws_markUint32S.mono _ _ _)
   | (with_reducible exact laws_toUint32S.mono _ _)
   | (with_reducible exact spec_ParseCells.mono _ _)
   | (with_reducible exact LeO.refl _)
   | (with_reducible exact LeO.none _)
   | (with_reducible refine LeO.ite ?_ ?_)
   | (with_reducible refine LeO.bind ?_ (fun _ => ?_))
   | exact ih0 _ _ _ _
   | exact impl_ParseCells.mono _ _
   | exact laws_eqItemS.mono _ _ _
   | exact laws_eqUint32S.mono _ _ _
   | exact laws_heldItemS.mono _ _ _
   | exact laws_markItemS.mono _ _ _
   | exact laws_markUint32S.mono _ _ _
   | exact laws_toUint32S.mono _ _
   | exact spec_ParseCells.mono _ _
   | exact LeO.none _
   | refine LeO.ite ?_ ?_
   | refine LeO.bind ?_ (fun _ => ?_)
theorem laws_FnExactParseCells.mono : ∀ a0 k, LeO (laws_FnExactParseCells.f k a0) (laws_FnExactParseCells.f (k + 1) a0) := by
 intro a0 k
 have ih0 := laws_FnExactParseCells.mono_l k
 unfold laws_FnExactParseCells.f
 repeat' first
   | (with_reducible exact ih0 _ _ _ _)
   | (with_reducible exact impl_ParseCells.mono _ _)
   | (with_reducible exact laws_eqItemS.mono _ _ _)
   | (with_reducible exact laws_eqUint32S.mono _ _ _)
   | (with_reducible exact laws_heldItemS.mono _ _ _)
   | (with_reducible exact laws_markItemS.mono _ _ _)
   | (with_reducible exact laws_markUint32S.mono _ _ _)
   | (with_reducible exact laws_toUint32S.mono _ _)
   | (with_reducible exact spec_ParseCells.mono _ _)
   | (with_reducible exact LeO.refl _)
   | (with_reducible exact LeO.none _)
   | (with_reducible refine LeO.ite ?_ ?_)
   | (with_reducible refine LeO.bind ?_ (fun _ => ?_))
   | exact ih0 _ _ _ _
   | exact impl_ParseCells.mono _ _
   | exact laws_eqItemS.mono _ _ _
   | exact laws_eqUint32S.mono _ _ _
   | exact laws_heldItemS.mono _ _ _
   | exact laws_markItemS.mono _ _ _
   | exact laws_markUint32S.mono _ _ _
   | exact laws_toUint32S.mono _ _
   | exact spec_ParseCells.mono _ _
   | exact LeO.none _
   | refine LeO.ite ?_ ?_
   | refine LeO.bind ?_ (fun _ => ?_)
set_option maxHeartbeats 8000000 in
set_option maxRecDepth 100000 in
theorem laws_FnExactParseCells.calls (k : Nat) (A0 : Option Addr) (c0 : Nat) (l0 : List Int) (r : Bool) (w : World) (hr0 : Kd.C (Kd.int .u32) w A0 l0.length l0) (hc0 : l0.length ≤ c0) (h : laws_FnExactParseCells.f k l0 = some r) :
  Calls Try.prog 10 #[.slice A0 l0.length c0] w fun e w' => e = .returned (.bool r) ∧ Below w.heap.size w w' := by
 have HR0 := Aside0.mk hr0
 have HC0 := Aside0.mk hc0
 clear hr0 hc0
 have HB := Z (Below.refl w.heap.size w)
 have H : (if (l0.length : Int) > 1048576 then (some true) else ((laws_toUint32S.f k l0).bind fun t478 => ((spec_ParseCells.f k t478).bind fun t481 => ((laws_toUint32S.f k l0).bind fun t484 => ((impl_ParseCells.f k t484).bind fun t487 => ((laws_eqItemS.f k t487 t481).bind fun t490 => (if t490 = true then ((laws_toUint32S.f k l0).bind fun t491 => ((laws_eqUint32S.f k t484 t491).bind fun t494 => (if t494 = true then ((laws_markUint32S.f k t484 1).bind fun bt495 => (if bt495.1 < 0 then (laws_FnExactParseCells.j0 k l0 t481 t487 true) else ((laws_eqItemS.f k t487 t481).bind fun t497 => (laws_FnExactParseCells.j0 k l0 t481 t487 (!t497))))) else (some false)))) else (some false)))))))) = some r := h
 clear h
 by_cases c2 : (l0.length : Int) > 1048576
 ·rw [if_pos c2] at H
  have c2b0 : decide (1048576 < (l0.length : Int)) = true := decide_eq_true c2
  have c2b1 : decide (1048576 < l0.length) = true := decide_eq_true (by omega)
  clear c2
  obtain rfl := Option.some.inj H
  go_enter Try.func10, Try.ntmps10
  go_wp2
  go_ret
  exact ⟨Z13, Z62⟩
 ·rw [if_neg c2] at H
  have c2b0 : decide (1048576 < (l0.length : Int)) = false := decide_eq_false c2
  have c2b1 : decide (1048576 < l0.length) = false := decide_eq_false (by omega)
  clear c2
  replace H := Option.bind_eq_some_iff.mp H
  obtain ⟨t478, A30, H⟩ := H
  replace H : ((spec_ParseCells.f k t478).bind fun t481 => ((laws_toUint32S.f k l0).bind fun t484 => ((impl_ParseCells.f k t484).bind fun t487 => ((laws_eqItemS.f k t487 t481).bind fun t490 => (if t490 = true then ((laws_toUint32S.f k l0).bind fun t491 => ((laws_eqUint32S.f k t484 t491).bind fun t494 => (if t494 = true then ((laws_markUint32S.f k t484 1).bind fun bt495 => (if bt495.1 < 0 then (laws_FnExactParseCells.j0 k l0 t481 t487 true) else ((laws_eqItemS.f k t487 t481).bind fun t497 => (laws_FnExactParseCells.j0 k l0 t481 t487 (!t497))))) else (some false)))) else (some false)))))) = some r := H
  have A3 := Aside0.mk A30
  clear A30
  replace H := Option.bind_eq_some_iff.mp H
  obtain ⟨t481, A40, H⟩ := H
  replace H : ((laws_toUint32S.f k l0).bind fun t484 => ((impl_ParseCells.f k t484).bind fun t487 => ((laws_eqItemS.f k t487 t481).bind fun t490 => (if t490 = true then ((laws_toUint32S.f k l0).bind fun t491 => ((laws_eqUint32S.f k t484 t491).bind fun t494 => (if t494 = true then ((laws_markUint32S.f k t484 1).bind fun bt495 => (if bt495.1 < 0 then (laws_FnExactParseCells.j0 k l0 t481 t487 true) else ((laws_eqItemS.f k t487 t481).bind fun t497 => (laws_FnExactParseCells.j0 k l0 t481 t487 (!t497))))) else (some false)))) else (some false))))) = some r := H
  have A4 := Aside0.mk A40
  clear A40
  replace H := Option.bind_eq_some_iff.mp H
  obtain ⟨t484, A50, H⟩ := H
  replace H : ((impl_ParseCells.f k t484).bind fun t487 => ((laws_eqItemS.f k t487 t481).bind fun t490 => (if t490 = true then ((laws_toUint32S.f k l0).bind fun t491 => ((laws_eqUint32S.f k t484 t491).bind fun t494 => (if t494 = true then ((laws_markUint32S.f k t484 1).bind fun bt495 => (if bt495.1 < 0 then (laws_FnExactParseCells.j0 k l0 t481 t487 true) else ((laws_eqItemS.f k t487 t481).bind fun t497 => (laws_FnExactParseCells.j0 k l0 t481 t487 (!t497))))) else (some false)))) else (some false)))) = some r := H
  have A5 := Aside0.mk A50
  clear A50
  replace H := Option.bind_eq_some_iff.mp H
  obtain ⟨t487, A60, H⟩ := H
  replace H : ((laws_eqItemS.f k t487 t481).bind fun t490 => (if t490 = true then ((laws_toUint32S.f k l0).bind fun t491 => ((laws_eqUint32S.f k t484 t491).bind fun t494 => (if t494 = true then ((laws_markUint32S.f k t484 1).bind fun bt495 => (if bt495.1 < 0 then (laws_FnExactParseCells.j0 k l0 t481 t487 true) else ((laws_eqItemS.f k t487 t481).bind fun t497 => (laws_FnExactParseCells.j0 k l0 t481 t487 (!t497))))) else (some false)))) else (some false))) = some r := H
  have A6 := Aside0.mk A60
  clear A60
  replace H := Option.bind_eq_some_iff.mp H
  obtain ⟨t490, A70, H⟩ := H
  replace H : (if t490 = true then ((laws_toUint32S.f k l0).bind fun t491 => ((laws_eqUint32S.f k t484 t491).bind fun t494 => (if t494 = true then ((laws_markUint32S.f k t484 1).bind fun bt495 => (if bt495.1 < 0 then (laws_FnExactParseCells.j0 k l0 t481 t487 true) else ((laws_eqItemS.f k t487 t481).bind fun t497 => (laws_FnExactParseCells.j0 k l0 t481 t487 (!t497))))) else (some false)))) else (some false)) = some r := H
  have A7 := Aside0.mk A70
  clear A70
  by_cases c8 : t490 = true
  ·subst c8
   have H1 : ((laws_toUint32S.f k l0).bind fun t491 => ((laws_eqUint32S.f k t484 t491).bind fun t494 => (if t494 = true then ((laws_markUint32S.f k t484 1).bind fun bt495 => (if bt495.1 < 0 then (laws_FnExactParseCells.j0 k l0 t481 t487 true) else ((laws_eqItemS.f k t487 t481).bind fun t497 => (laws_FnExactParseCells.j0 k l0 t481 t487 (!t497))))) else (some false)))) = some r := Z7
   clear H
   have H := H1
   clear H1
   replace H := Option.bind_eq_some_iff.mp H
   obtain ⟨t491, A90, H⟩ := H
   replace H : ((laws_eqUint32S.f k t484 t491).bind fun t494 => (if t494 = true then ((laws_markUint32S.f k t484 1).bind fun bt495 => (if bt495.1 < 0 then (laws_FnExactParseCells.j0 k l0 t481 t487 true) else ((laws_eqItemS.f k t487 t481).bind fun t497 => (laws_FnExactParseCells.j0 k l0 t481 t487 (!t497))))) else (some false))) = some r := H
   have A9 := Aside0.mk A90
   clear A90
   replace H := Option.bind_eq_some_iff.mp H
   obtain ⟨t494, A100, H⟩ := H
   replace H : (if t494 = true then ((laws_markUint32S.f k t484 1).bind fun bt495 => (if bt495.1 < 0 then (laws_FnExactParseCells.j0 k l0 t481 t487 true) else ((laws_eqItemS.f k t487 t481).bind fun t497 => (laws_FnExactParseCells.j0 k l0 t481 t487 (!t497))))) else (some false)) = some r := H
   have A10 := Aside0.mk A100
   clear A100
   by_cases c11 : t494 = true
   ·subst c11
    have H1 : ((laws_markUint32S.f k t484 1).bind fun bt495 => (if bt495.1 < 0 then (laws_FnExactParseCells.j0 k l0 t481 t487 true) else ((laws_eqItemS.f k t487 t481).bind fun t497 => (laws_FnExactParseCells.j0 k l0 t481 t487 (!t497))))) = some r := Z7
    clear H
    have H := H1
    clear H1
    replace H := Option.bind_eq_some_iff.mp H
    obtain ⟨⟨t495, t496⟩, A120, H⟩ := H
    replace H : (if t495 < 0 then (laws_FnExactParseCells.j0 k l0 t481 t487 true) else ((laws_eqItemS.f k t487 t481).bind fun t497 => (laws_FnExactParseCells.j0 k l0 t481 t487 (!t497)))) = some r := H
    have A12 := Aside0.mk A120
    clear A120
    have HC13 := Aside0.mk H
    clear H
    go_enter Try.func10, Try.ntmps10
    go_upto_region 12 with (first | ((with_reducible refine gate_callee (f := 50) rfl ?_); refine goesL_ (some 14) rfl rfl Try.func50 Z0 rfl #[.slice A0 l0.length c0] rfl Z4 ?_; (with_reducible refine (laws_toUint32S.calls k _ _ l0 t478 _ ?side1 ?side2 A3.out).mono ?_); (case side1 => exact (Z60 HR0)); (case side2 => exact HC0.out); rintro e w14 ⟨v479, rfl, ho0, hb⟩; refine ⟨_, rfl, ?_⟩; have HO480 := Z (Kd.R_lower ho0 (below_size Z62)); replace HB := Z (below_step Z62 hb); (try clear hb); (try clear hb2); (try clear hk); (try clear hi); (try clear ho0); obtain ⟨Ao15, co15, eo15⟩ := Kd.R_slice HO480.out; subst eo15) | ((with_reducible refine gate_callee (f := 17) rfl ?_); refine goesL_ (some 15) rfl rfl Try.func17 Z0 rfl #[.slice Ao15 t478.length co15] rfl Z4 ?_; (with_reducible refine (spec_ParseCells.calls k _ _ t478 t481 _ ?side1 ?side2 A4.out).mono ?_); (case side1 => exact (Z26 HO480)); (case side2 => exact (Kd.R_reads' HO480.out).2.1); rintro e w16 ⟨v482, rfl, ho0, hb⟩; refine ⟨_, rfl, ?_⟩; replace HO480 := Z (Kd.R_below (Z12 HO480) hb); have HO483 := Z (Kd.R_lower ho0 (below_size Z62)); replace HB := Z (below_step Z62 hb); (try clear hb); (try clear hb2); (try clear hk); (try clear hi); (try clear ho0)) | ((with_reducible refine gate_callee (f := 50) rfl ?_); refine goesL_ (some 17) rfl rfl Try.func50 Z0 rfl #[.slice A0 l0.length c0] rfl Z4 ?_; (with_reducible refine (laws_toUint32S.calls k _ _ l0 t484 _ ?side1 ?side2 A5.out).mono ?_); (case side1 => exact (Z27 HR0)); (case side2 => exact HC0.out); rintro e w17 ⟨v485, rfl, ho0, hb⟩; refine ⟨_, rfl, ?_⟩; replace HO483 := Z (Kd.R_below (Z12 HO483) hb); have HO486 := Z (Kd.R_lower (Kd.R_new' ho0 (Kd.R_lt (Z12 HO480))) (below_size Z62)); replace HO480 := Z (Kd.R_elder' (Z12 HO480) (Kd.R_base ho0) hb); replace HB := Z (below_step Z62 hb); (try clear hb); (try clear hb2); (try clear hk); (try clear hi); (try clear ho0); obtain ⟨Ao18, co18, eo18⟩ := Kd.R_slice HO486.out; subst eo18) | ((with_reducible refine gate_callee (f := 15) rfl ?_); refine goesL_ (some 19) rfl rfl Try.func15 Z0 rfl #[.slice Ao18 t484.length co18] rfl Z4 ?_; (with_reducible refine (impl_ParseCells.calls k (fun k_ => some k_ = (.slice Ao18 t484.length co18 : Value).ownBlock) _ _ t484 t487 _ ?side1 A6.out).mono ?_); (case side1 => exact Kd.R_V (Kd.R_tight rfl (Kd.R_apart' (HO486.out) (Kd.R_typed HO483.out) (by decide)))); rintro e w19 ⟨v488, rfl, ho0, hb⟩; refine ⟨_, rfl, ?_⟩; replace HO480 := Z (Kd.R_below (Z12 HO480) hb); replace HO486 := Z (Kd.R_below (Z12 HO486) hb); have HO489 := Z (Kd.R_lower (Kd.R_new' (Kd.R_mono (ok' := fun k_ => True) ho0 (fun _ hk_ => trivial)) (Kd.R_lt (Z12 HO483))) (below_size Z62)); replace HO483 := Z (Kd.R_elder' (Z12 HO483) (Kd.R_base ho0) hb); replace HB := Z (below_step Z62 hb); (try clear hb); (try clear hb2); (try clear hk); (try clear hi); (try clear ho0); obtain ⟨Ao20, co20, eo20⟩ := Kd.R_slice HO489.out; subst eo20; obtain ⟨Ao21, co21, eo21⟩ := Kd.R_slice HO483.out; subst eo21) | ((with_reducible refine gate_callee (f := 48) rfl ?_); refine goesL_ (some 22) rfl rfl Try.func48 Z0 rfl #[.slice Ao20 t487.length co20, .slice Ao21 t481.length co21] rfl Z4 ?_; (with_reducible refine (laws_eqItemS.calls k _ _ t487 _ _ t481 true _ ?side1 ?side2 ?side3 ?side4 A7.out).mono ?_); (case side1 => exact (Z26 HO489)); (case side2 => exact (Kd.R_reads' HO489.out).2.1); (case side3 => exact (Z26 HO483)); (case side4 => exact (Kd.R_reads' HO483.out).2.1); rintro e w22 ⟨rfl, hb⟩; refine ⟨_, rfl, ?_⟩; replace HO480 := Z (Kd.R_below (Z12 HO480) hb); replace HO483 := Z (Kd.R_below (Z12 HO483) hb); replace HO486 := Z (Kd.R_below (Z12 HO486) hb); replace HO489 := Z (Kd.R_below (Z12 HO489) hb); replace HB := Z (below_step Z62 hb); (try clear hb); (try clear hb2); (try clear hk); (try clear hi)) | ((with_reducible refine gate_callee (f := 50) rfl ?_); refine goesL_ (some 26) rfl rfl Try.func50 Z0 rfl #[.slice A0 l0.length c0] rfl Z4 ?_; (with_reducible refine (laws_toUint32S.calls k _ _ l0 t491 _ ?side1 ?side2 A9.out).mono ?_); (case side1 => exact (Z27 HR0)); (case side2 => exact HC0.out); rintro e w23 ⟨v492, rfl, ho0, hb⟩; refine ⟨_, rfl, ?_⟩; replace HO483 := Z (Kd.R_below (Z12 HO483) hb); replace HO489 := Z (Kd.R_below (Z12 HO489) hb); have HO493 := Z (Kd.R_lower (Kd.R_new' (Kd.R_new' ho0 (Kd.R_lt (Z12 HO480))) (Kd.R_lt (Z12 HO486))) (below_size Z62)); replace HO480 := Z (Kd.R_elder' (Z12 HO480) (Kd.R_base ho0) hb); replace HO486 := Z (Kd.R_elder' (Z12 HO486) (Kd.R_base ho0) hb); replace HB := Z (below_step Z62 hb); (try clear hb); (try clear hb2); (try clear hk); (try clear hi); (try clear ho0); obtain ⟨Ao24, co24, eo24⟩ := Kd.R_slice HO493.out; subst eo24) | ((with_reducible refine gate_callee (f := 51) rfl ?_); refine goesL_ (some 27) rfl rfl Try.func51 Z0 rfl #[.slice Ao18 t484.length co18, .slice Ao24 t491.length co24] rfl Z4 ?_; (with_reducible refine (laws_eqUint32S.calls k _ _ t484 _ _ t491 true _ ?side1 ?side2 ?side3 ?side4 A10.out).mono ?_); (case side1 => exact (Z26 HO486)); (case side2 => exact (Kd.R_reads' HO486.out).2.1); (case side3 => exact (Z26 HO493)); (case side4 => exact (Kd.R_reads' HO493.out).2.1); rintro e w' ⟨rfl, ⟨nd, rfl⟩⟩; refine ⟨_, rfl, ?_⟩) | ((with_reducible refine gate_callee (f := 52) rfl ?_); refine goesL_ (some 31) rfl rfl Try.func52 Z0 rfl #[.slice Ao18 t484.length co18, .int .i64 1] rfl Z4 ?_; (with_reducible refine (laws_markUint32S.calls k (fun k_ => some k_ = (.slice Ao18 t484.length co18 : Value).ownBlock) (.slice Ao18 t484.length co18) t484 1 t495 t496 w _ ?side1 ?side2 A12.out).mono ?_); (case side1 => exact Z62); (case side2 => exact Kd.R_tight rfl HO486.out); rintro e w25 ⟨rfl, hy0, hb, hkp⟩; refine ⟨_, rfl, ?_⟩; replace HO480 := Z (Kd.R_mono (ok' := fun k_ => some k_ ≠ (.slice Ao18 t484.length co18 : Value).ownBlock ∧ some k_ ≠ (.slice Ao24 t491.length co24 : Value).ownBlock) (Kd.R_keptB (HO480.out) hkp (fun k_ hk_ hs_ => (hk_.1.2) hs_)) (fun k_ hk_ => ⟨hk_.1.1.2, hk_.1.2⟩)); replace HO483 := Z (Kd.R_mono (ok' := fun k_ => some k_ ≠ (.slice Ao20 t487.length co20 : Value).ownBlock) (Kd.R_keptB ((Kd.R_apart' HO483.out (Kd.R_typed HO486.out) (by decide))) hkp (fun k_ hk_ hs_ => (hk_.2) hs_)) (fun k_ hk_ => hk_.1.1.2)); replace HO489 := Z (Kd.R_mono (ok' := fun k_ => some k_ ≠ (.slice Ao21 t481.length co21 : Value).ownBlock) (Kd.R_keptB ((Kd.R_apart' HO489.out (Kd.R_typed HO486.out) (by decide))) hkp (fun k_ hk_ hs_ => (hk_.2) hs_)) (fun k_ hk_ => hk_.1.1.2)); replace HO486 := Z (Kd.R_reok rfl hy0 (fun k_ e_ => HO486.out.1 k_ e_)); replace HO493 := Z (Kd.R_mono (ok' := fun k_ => some k_ ≠ (.slice Ao15 t478.length co15 : Value).ownBlock ∧ some k_ ≠ (.slice Ao18 t484.length co18 : Value).ownBlock) (Kd.R_keptB (HO493.out) hkp (fun k_ hk_ hs_ => (hk_.2) hs_)) (fun k_ hk_ => ⟨hk_.1.1.2, hk_.1.2⟩)); replace HB := Z (hb); (try clear hb); (try clear hkp); (try clear hy0)))
    (try simp only [Act.put, List.setIfInBounds_toArray, List.set_cons_zero, List.set_cons_succ])
    go_cut [39] (fun v39 wc => ∃ (kq : Nat) (x39_12 : Bool), v39 = .bool x39_12 ∧ Aside0 (laws_FnExactParseCells.j0 kq l0 t481 t487 x39_12 = some r) ∧ Aside0 (kq ≤ k) ∧ Aside0 (Kd.R k51 51 wc w.heap.size (fun k_ => some k_ ≠ ((.slice Ao20 t487.length co20) : Value).ownBlock) (.slice Ao21 t481.length co21) t481) ∧ Aside0 (Kd.R k51 51 wc w.heap.size (fun k_ => some k_ ≠ ((.slice Ao21 t481.length co21) : Value).ownBlock) (.slice Ao20 t487.length co20) t487) ∧ Aside0 (Below w.heap.size w wc))
    case first =>
     have H := HC13.out
     clear HC13
     by_cases c26 : t495 < 0
     ·rw [if_pos c26] at H
      have c26b0 : decide (t495 < 0) = true := decide_eq_true c26
      clear c26
      (first | rw [c26b0] | (simp only [i64_w, i32_w]; rw [c26b0]) | skip)
      have H' := Aside0.mk H
      clear H
      go_wp2
      go_meet
      case rel => exact ⟨_, (true), Z2, H', ⟨Z14⟩, ⟨(Z12 HO483)⟩, ⟨(Z12 HO489)⟩, ⟨Z62⟩⟩
     ·rw [if_neg c26] at H
      have c26b0 : decide (t495 < 0) = false := decide_eq_false c26
      clear c26
      (first | rw [c26b0] | (simp only [i64_w, i32_w]; rw [c26b0]) | skip)
      replace H := Option.bind_eq_some_iff.mp H
      obtain ⟨t497, A270, H⟩ := H
      replace H : (laws_FnExactParseCells.j0 k l0 t481 t487 (!t497)) = some r := H
      have A27 := Aside0.mk A270
      clear A270
      have H' := Aside0.mk H
      clear H
      go_wp2_with (first | (go_at_call 48; (with_reducible refine (laws_eqItemS.calls k _ _ t487 _ _ t481 t497 _ ?side1 ?side2 ?side3 ?side4 A27.out).mono ?_); (case side1 => exact (Z26 HO489)); (case side2 => exact (Kd.R_reads' HO489.out).2.1); (case side3 => exact (Z26 HO483)); (case side4 => exact (Kd.R_reads' HO483.out).2.1); rintro e w28 ⟨rfl, hb⟩; replace HO480 := Z (Kd.R_below (Z12 HO480) hb); replace HO483 := Z (Kd.R_below (Z12 HO483) hb); replace HO486 := Z (Kd.R_below (Z12 HO486) hb); replace HO489 := Z (Kd.R_below (Z12 HO489) hb); replace HO493 := Z (Kd.R_below (Z12 HO493) hb); replace HB := Z (below_step Z62 hb); (try clear hb); (try clear hb2); (try clear hk); (try clear hi)))
      go_meet
      case rel => exact ⟨_, (!t497), Z2, H', ⟨Z14⟩, ⟨(Z12 HO483)⟩, ⟨(Z12 HO489)⟩, ⟨Z62⟩⟩
    case rest =>
     clear HC13
     try clear c1
     try clear c2
     try clear c2b0
     try clear c2b1
     try clear p2
     try clear c4
     try clear c5
     try clear c8
     try clear c10
     try clear c11
     try clear c15
     try clear c17
     try clear c26
     try clear c26b0
     obtain ⟨kq, x39_12, rfl, HA, HJ12, HO_3, HO_5, HB⟩ := hcut
     cases kq with
     | zero => exact absurd HA.out (by simp [laws_FnExactParseCells.j0])
     | succ kj12 =>
      have H := HA.out
      clear HA
      simp only [laws_FnExactParseCells.j0] at H
      by_cases c29 : x39_12 = true
      ·subst c29
       have H1 : (some false) = some r := Z7
       clear H
       have H := H1
       clear H1
       obtain rfl := Option.some.inj H
       go_wp2
       go_ret
       exact ⟨Z13, Z62⟩
      ·replace c29 := Bool.eq_false_iff.mpr c29
       subst c29
       have H1 : ((laws_markItemS.f kj12 t487 1).bind fun bt498 => ((laws_heldItemS.f kj12 bt498.2 1).bind fun t500 => (if t500 < 0 then (some false) else (if t500 = bt498.1 then ((laws_toUint32S.f kj12 l0).bind fun t501 => ((impl_ParseCells.f kj12 t501).bind fun t504 => ((laws_eqItemS.f kj12 t504 t481).bind fun t507 => (if t507 = true then ((laws_heldItemS.f kj12 bt498.2 1).bind fun t508 => (if t508 < 0 then (some false) else (if t508 = bt498.1 then (some true) else (some false)))) else (some false))))) else (some false))))) = some r := by rw [if_neg (show ¬ (false = true) by decide)] at H; exact H
       clear H
       have H := H1
       clear H1
       replace H := Option.bind_eq_some_iff.mp H
       obtain ⟨⟨t498, t499⟩, A300, H⟩ := H
       replace H : ((laws_heldItemS.f kj12 t499 1).bind fun t500 => (if t500 < 0 then (some false) else (if t500 = t498 then ((laws_toUint32S.f kj12 l0).bind fun t501 => ((impl_ParseCells.f kj12 t501).bind fun t504 => ((laws_eqItemS.f kj12 t504 t481).bind fun t507 => (if t507 = true then ((laws_heldItemS.f kj12 t499 1).bind fun t508 => (if t508 < 0 then (some false) else (if t508 = t498 then (some true) else (some false)))) else (some false))))) else (some false)))) = some r := H
       have A30 := Aside0.mk A300
       clear A300
       replace H := Option.bind_eq_some_iff.mp H
       obtain ⟨t500, A310, H⟩ := H
       replace H : (if t500 < 0 then (some false) else (if t500 = t498 then ((laws_toUint32S.f kj12 l0).bind fun t501 => ((impl_ParseCells.f kj12 t501).bind fun t504 => ((laws_eqItemS.f kj12 t504 t481).bind fun t507 => (if t507 = true then ((laws_heldItemS.f kj12 t499 1).bind fun t508 => (if t508 < 0 then (some false) else (if t508 = t498 then (some true) else (some false)))) else (some false))))) else (some false))) = some r := H
       have A31 := Aside0.mk A310
       clear A310
       by_cases c32 : t500 < 0
       ·rw [if_pos c32] at H
        have c32b0 : decide (t500 < 0) = true := decide_eq_true c32
        clear c32
        obtain rfl := Option.some.inj H
        go_wp2_with (first | ((with_reducible refine gate_callee (f := 49) rfl ?_); refine goesL_ (some 42) rfl rfl Try.func49 Z0 rfl #[.slice Ao20 t487.length co20, .int .i64 1] rfl Z4 ?_; (with_reducible refine (laws_markItemS.calls kj12 (fun k_ => some k_ = (.slice Ao20 t487.length co20 : Value).ownBlock) (.slice Ao20 t487.length co20) t487 1 t498 t499 w _ ?side1 ?side2 A30.out).mono ?_); (case side1 => exact Z62); (case side2 => exact Kd.R_tight rfl HO_5.out); rintro e w33 ⟨rfl, hy0, hb, hkp⟩; refine ⟨_, rfl, ?_⟩; replace HO_3 := Z (Kd.R_mono (ok' := fun k_ => some k_ ≠ (.slice Ao20 t487.length co20 : Value).ownBlock) (Kd.R_keptB (HO_3.out) hkp (fun k_ hk_ hs_ => (hk_) hs_)) (fun k_ hk_ => hk_.1)); replace HO_5 := Z (Kd.R_reok rfl hy0 (fun k_ e_ => HO_5.out.1 k_ e_)); replace HB := Z (hb); (try clear hb); (try clear hkp); (try clear hy0)) | ((with_reducible refine gate_callee (f := 53) rfl ?_); refine goesL_ (some 45) rfl rfl Try.func53 Z0 rfl #[.slice Ao20 t499.length co20, .int .i64 1] rfl (Z61 HO_5) ?_; (with_reducible refine (laws_heldItemS.calls kj12 _ _ t499 1 t500 _ ?side1 ?side2 A31.out).mono ?_); (case side1 => exact (Z26 HO_5)); (case side2 => rw [show t499.length = t487.length from (Kd.R_reads' HO_5.out).1.symm]; exact (Kd.R_reads' HO_5.out).2.1); rintro e w34 ⟨rfl, hb⟩; refine ⟨_, rfl, ?_⟩; replace HO_3 := Z (Kd.R_below (Z12 HO_3) hb); replace HO_5 := Z (Kd.R_below (Z12 HO_5) hb); replace HB := Z (below_step Z62 hb); (try clear hb); (try clear hb2); (try clear hk); (try clear hi)))
        go_ret
        exact ⟨Z13, Z62⟩
       ·rw [if_neg c32] at H
        have c32b0 : decide (t500 < 0) = false := decide_eq_false c32
        clear c32
        by_cases c35 : t500 = t498
        ·rw [if_pos c35] at H
         have c35b0 : (t500 == t498) = true := beq_iff_eq.mpr c35
         have c35b1 : (t500 != t498) = false := bne_eq_false_iff_eq.mpr c35
         clear c35
         replace H := Option.bind_eq_some_iff.mp H
         obtain ⟨t501, A360, H⟩ := H
         replace H : ((impl_ParseCells.f kj12 t501).bind fun t504 => ((laws_eqItemS.f kj12 t504 t481).bind fun t507 => (if t507 = true then ((laws_heldItemS.f kj12 t499 1).bind fun t508 => (if t508 < 0 then (some false) else (if t508 = t498 then (some true) else (some false)))) else (some false)))) = some r := H
         have A36 := Aside0.mk A360
         clear A360
         replace H := Option.bind_eq_some_iff.mp H
         obtain ⟨t504, A370, H⟩ := H
         replace H : ((laws_eqItemS.f kj12 t504 t481).bind fun t507 => (if t507 = true then ((laws_heldItemS.f kj12 t499 1).bind fun t508 => (if t508 < 0 then (some false) else (if t508 = t498 then (some true) else (some false)))) else (some false))) = some r := H
         have A37 := Aside0.mk A370
         clear A370
         replace H := Option.bind_eq_some_iff.mp H
         obtain ⟨t507, A380, H⟩ := H
         replace H : (if t507 = true then ((laws_heldItemS.f kj12 t499 1).bind fun t508 => (if t508 < 0 then (some false) else (if t508 = t498 then (some true) else (some false)))) else (some false)) = some r := H
         have A38 := Aside0.mk A380
         clear A380
         by_cases c39 : t507 = true
         ·subst c39
          have H1 : ((laws_heldItemS.f kj12 t499 1).bind fun t508 => (if t508 < 0 then (some false) else (if t508 = t498 then (some true) else (some false)))) = some r := Z7
          clear H
          have H := H1
          clear H1
          replace H := Option.bind_eq_some_iff.mp H
          obtain ⟨t508, A400, H⟩ := H
          replace H : (if t508 < 0 then (some false) else (if t508 = t498 then (some true) else (some false))) = some r := H
          have A40 := Aside0.mk A400
          clear A400
          by_cases c41 : t508 < 0
          ·rw [if_pos c41] at H
           have c41b0 : decide (t508 < 0) = true := decide_eq_true c41
           clear c41
           obtain rfl := Option.some.inj H
           go_wp2_with (first | ((with_reducible refine gate_callee (f := 49) rfl ?_); refine goesL_ (some 42) rfl rfl Try.func49 Z0 rfl #[.slice Ao20 t487.length co20, .int .i64 1] rfl Z4 ?_; (with_reducible refine (laws_markItemS.calls kj12 (fun k_ => some k_ = (.slice Ao20 t487.length co20 : Value).ownBlock) (.slice Ao20 t487.length co20) t487 1 t498 t499 w _ ?side1 ?side2 A30.out).mono ?_); (case side1 => exact Z62); (case side2 => exact Kd.R_tight rfl HO_5.out); rintro e w42 ⟨rfl, hy0, hb, hkp⟩; refine ⟨_, rfl, ?_⟩; replace HO_3 := Z (Kd.R_mono (ok' := fun k_ => some k_ ≠ (.slice Ao20 t487.length co20 : Value).ownBlock) (Kd.R_keptB (HO_3.out) hkp (fun k_ hk_ hs_ => (hk_) hs_)) (fun k_ hk_ => hk_.1)); replace HO_5 := Z (Kd.R_reok rfl hy0 (fun k_ e_ => HO_5.out.1 k_ e_)); replace HB := Z (hb); (try clear hb); (try clear hkp); (try clear hy0)) | ((with_reducible refine gate_callee (f := 53) rfl ?_); refine goesL_ (some 45) rfl rfl Try.func53 Z0 rfl #[.slice Ao20 t499.length co20, .int .i64 1] rfl (Z61 HO_5) ?_; (with_reducible refine (laws_heldItemS.calls kj12 _ _ t499 1 t500 _ ?side1 ?side2 A31.out).mono ?_); (case side1 => exact (Z26 HO_5)); (case side2 => rw [show t499.length = t487.length from (Kd.R_reads' HO_5.out).1.symm]; exact (Kd.R_reads' HO_5.out).2.1); rintro e w43 ⟨rfl, hb⟩; refine ⟨_, rfl, ?_⟩; replace HO_3 := Z (Kd.R_below (Z12 HO_3) hb); replace HO_5 := Z (Kd.R_below (Z12 HO_5) hb); replace HB := Z (below_step Z62 hb); (try clear hb); (try clear hb2); (try clear hk); (try clear hi)) | ((with_reducible refine gate_callee (f := 50) rfl ?_); refine goesL_ (some 52) rfl rfl Try.func50 Z0 rfl #[.slice A0 l0.length c0] rfl Z4 ?_; (with_reducible refine (laws_toUint32S.calls kj12 _ _ l0 t501 _ ?side1 ?side2 A36.out).mono ?_); (case side1 => exact (Z27 HR0)); (case side2 => exact HC0.out); rintro e w44 ⟨v502, rfl, ho0, hb⟩; refine ⟨_, rfl, ?_⟩; replace HO_3 := Z (Kd.R_below (Z12 HO_3) hb); replace HO_5 := Z (Kd.R_below (Z12 HO_5) hb); have HO503 := Z (Kd.R_lower ho0 (below_size Z62)); replace HB := Z (below_step Z62 hb); (try clear hb); (try clear hb2); (try clear hk); (try clear hi); (try clear ho0); obtain ⟨Ao45, co45, eo45⟩ := Kd.R_slice HO503.out; subst eo45) | ((with_reducible refine gate_callee (f := 15) rfl ?_); refine goesL_ (some 53) rfl rfl Try.func15 Z0 rfl #[.slice Ao45 t501.length co45] rfl Z4 ?_; (with_reducible refine (impl_ParseCells.calls kj12 (fun k_ => some k_ = (.slice Ao45 t501.length co45 : Value).ownBlock) _ _ t501 t504 _ ?side1 A37.out).mono ?_); (case side1 => exact Kd.R_V (Kd.R_tight rfl (Kd.R_apart' (Kd.R_apart' (HO503.out) (Kd.R_typed HO_3.out) (by decide)) (Kd.R_typed HO_5.out) (by decide)))); rintro e w46 ⟨v505, rfl, ho0, hb⟩; refine ⟨_, rfl, ?_⟩; replace HO503 := Z (Kd.R_below (Z12 HO503) hb); have HO506 := Z (Kd.R_lower (Kd.R_new' (Kd.R_new' (Kd.R_mono (ok' := fun k_ => True) ho0 (fun _ hk_ => trivial)) (Kd.R_lt (Z12 HO_3))) (Kd.R_lt (Z12 HO_5))) (below_size Z62)); replace HO_3 := Z (Kd.R_elder' (Z12 HO_3) (Kd.R_base ho0) hb); replace HO_5 := Z (Kd.R_elder' (Z12 HO_5) (Kd.R_base ho0) hb); replace HB := Z (below_step Z62 hb); (try clear hb); (try clear hb2); (try clear hk); (try clear hi); (try clear ho0); obtain ⟨Ao47, co47, eo47⟩ := Kd.R_slice HO506.out; subst eo47) | ((with_reducible refine gate_callee (f := 48) rfl ?_); refine goesL_ (some 56) rfl rfl Try.func48 Z0 rfl #[.slice Ao47 t504.length co47, .slice Ao21 t481.length co21] rfl Z4 ?_; (with_reducible refine (laws_eqItemS.calls kj12 _ _ t504 _ _ t481 true _ ?side1 ?side2 ?side3 ?side4 A38.out).mono ?_); (case side1 => exact (Z26 HO506)); (case side2 => exact (Kd.R_reads' HO506.out).2.1); (case side3 => exact (Z26 HO_3)); (case side4 => exact (Kd.R_reads' HO_3.out).2.1); rintro e w48 ⟨rfl, hb⟩; refine ⟨_, rfl, ?_⟩; replace HO_3 := Z (Kd.R_below (Z12 HO_3) hb); replace HO_5 := Z (Kd.R_below (Z12 HO_5) hb); replace HO503 := Z (Kd.R_below (Z12 HO503) hb); replace HO506 := Z (Kd.R_below (Z12 HO506) hb); replace HB := Z (below_step Z62 hb); (try clear hb); (try clear hb2); (try clear hk); (try clear hi)) | ((with_reducible refine gate_callee (f := 53) rfl ?_); refine goesL_ (some 60) rfl rfl Try.func53 Z0 rfl #[.slice Ao20 t499.length co20, .int .i64 1] rfl (Z61 HO_5) ?_; (with_reducible refine (laws_heldItemS.calls kj12 _ _ t499 1 t508 _ ?side1 ?side2 A40.out).mono ?_); (case side1 => exact (Z26 HO_5)); (case side2 => rw [show t499.length = t487.length from (Kd.R_reads' HO_5.out).1.symm]; exact (Kd.R_reads' HO_5.out).2.1); rintro e w49 ⟨rfl, hb⟩; refine ⟨_, rfl, ?_⟩; replace HO_3 := Z (Kd.R_below (Z12 HO_3) hb); replace HO_5 := Z (Kd.R_below (Z12 HO_5) hb); replace HO503 := Z (Kd.R_below (Z12 HO503) hb); replace HO506 := Z (Kd.R_below (Z12 HO506) hb); replace HB := Z (below_step Z62 hb); (try clear hb); (try clear hb2); (try clear hk); (try clear hi)))
           go_ret
           exact ⟨Z13, Z62⟩
          ·rw [if_neg c41] at H
           have c41b0 : decide (t508 < 0) = false := decide_eq_false c41
           clear c41
           by_cases c50 : t508 = t498
           ·rw [if_pos c50] at H
            have c50b0 : (t508 == t498) = true := beq_iff_eq.mpr c50
            have c50b1 : (t508 != t498) = false := bne_eq_false_iff_eq.mpr c50
            clear c50
            obtain rfl := Option.some.inj H
            go_wp2_with (first | ((with_reducible refine gate_callee (f := 49) rfl ?_); refine goesL_ (some 42) rfl rfl Try.func49 Z0 rfl #[.slice Ao20 t487.length co20, .int .i64 1] rfl Z4 ?_; (with_reducible refine (laws_markItemS.calls kj12 (fun k_ => some k_ = (.slice Ao20 t487.length co20 : Value).ownBlock) (.slice Ao20 t487.length co20) t487 1 t498 t499 w _ ?side1 ?side2 A30.out).mono ?_); (case side1 => exact Z62); (case side2 => exact Kd.R_tight rfl HO_5.out); rintro e w51 ⟨rfl, hy0, hb, hkp⟩; refine ⟨_, rfl, ?_⟩; replace HO_3 := Z (Kd.R_mono (ok' := fun k_ => some k_ ≠ (.slice Ao20 t487.length co20 : Value).ownBlock) (Kd.R_keptB (HO_3.out) hkp (fun k_ hk_ hs_ => (hk_) hs_)) (fun k_ hk_ => hk_.1)); replace HO_5 := Z (Kd.R_reok rfl hy0 (fun k_ e_ => HO_5.out.1 k_ e_)); replace HB := Z (hb); (try clear hb); (try clear hkp); (try clear hy0)) | ((with_reducible refine gate_callee (f := 53) rfl ?_); refine goesL_ (some 45) rfl rfl Try.func53 Z0 rfl #[.slice Ao20 t499.length co20, .int .i64 1] rfl (Z61 HO_5) ?_; (with_reducible refine (laws_heldItemS.calls kj12 _ _ t499 1 t500 _ ?side1 ?side2 A31.out).mono ?_); (case side1 => exact (Z26 HO_5)); (case side2 => rw [show t499.length = t487.length from (Kd.R_reads' HO_5.out).1.symm]; exact (Kd.R_reads' HO_5.out).2.1); rintro e w52 ⟨rfl, hb⟩; refine ⟨_, rfl, ?_⟩; replace HO_3 := Z (Kd.R_below (Z12 HO_3) hb); replace HO_5 := Z (Kd.R_below (Z12 HO_5) hb); replace HB := Z (below_step Z62 hb); (try clear hb); (try clear hb2); (try clear hk); (try clear hi)) | ((with_reducible refine gate_callee (f := 50) rfl ?_); refine goesL_ (some 52) rfl rfl Try.func50 Z0 rfl #[.slice A0 l0.length c0] rfl Z4 ?_; (with_reducible refine (laws_toUint32S.calls kj12 _ _ l0 t501 _ ?side1 ?side2 A36.out).mono ?_); (case side1 => exact (Z27 HR0)); (case side2 => exact HC0.out); rintro e w53 ⟨v502, rfl, ho0, hb⟩; refine ⟨_, rfl, ?_⟩; replace HO_3 := Z (Kd.R_below (Z12 HO_3) hb); replace HO_5 := Z (Kd.R_below (Z12 HO_5) hb); have HO503 := Z (Kd.R_lower ho0 (below_size Z62)); replace HB := Z (below_step Z62 hb); (try clear hb); (try clear hb2); (try clear hk); (try clear hi); (try clear ho0); obtain ⟨Ao54, co54, eo54⟩ := Kd.R_slice HO503.out; subst eo54) | ((with_reducible refine gate_callee (f := 15) rfl ?_); refine goesL_ (some 53) rfl rfl Try.func15 Z0 rfl #[.slice Ao54 t501.length co54] rfl Z4 ?_; (with_reducible refine (impl_ParseCells.calls kj12 (fun k_ => some k_ = (.slice Ao54 t501.length co54 : Value).ownBlock) _ _ t501 t504 _ ?side1 A37.out).mono ?_); (case side1 => exact Kd.R_V (Kd.R_tight rfl (Kd.R_apart' (Kd.R_apart' (HO503.out) (Kd.R_typed HO_3.out) (by decide)) (Kd.R_typed HO_5.out) (by decide)))); rintro e w55 ⟨v505, rfl, ho0, hb⟩; refine ⟨_, rfl, ?_⟩; replace HO503 := Z (Kd.R_below (Z12 HO503) hb); have HO506 := Z (Kd.R_lower (Kd.R_new' (Kd.R_new' (Kd.R_mono (ok' := fun k_ => True) ho0 (fun _ hk_ => trivial)) (Kd.R_lt (Z12 HO_3))) (Kd.R_lt (Z12 HO_5))) (below_size Z62)); replace HO_3 := Z (Kd.R_elder' (Z12 HO_3) (Kd.R_base ho0) hb); replace HO_5 := Z (Kd.R_elder' (Z12 HO_5) (Kd.R_base ho0) hb); replace HB := Z (below_step Z62 hb); (try clear hb); (try clear hb2); (try clear hk); (try clear hi); (try clear ho0); obtain ⟨Ao56, co56, eo56⟩ := Kd.R_slice HO506.out; subst eo56) | ((with_reducible refine gate_callee (f := 48) rfl ?_); refine goesL_ (some 56) rfl rfl Try.func48 Z0 rfl #[.slice Ao56 t504.length co56, .slice Ao21 t481.length co21] rfl Z4 ?_; (with_reducible refine (laws_eqItemS.calls kj12 _ _ t504 _ _ t481 true _ ?side1 ?side2 ?side3 ?side4 A38.out).mono ?_); (case side1 => exact (Z26 HO506)); (case side2 => exact (Kd.R_reads' HO506.out).2.1); (case side3 => exact (Z26 HO_3)); (case side4 => exact (Kd.R_reads' HO_3.out).2.1); rintro e w57 ⟨rfl, hb⟩; refine ⟨_, rfl, ?_⟩; replace HO_3 := Z (Kd.R_below (Z12 HO_3) hb); replace HO_5 := Z (Kd.R_below (Z12 HO_5) hb); replace HO503 := Z (Kd.R_below (Z12 HO503) hb); replace HO506 := Z (Kd.R_below (Z12 HO506) hb); replace HB := Z (below_step Z62 hb); (try clear hb); (try clear hb2); (try clear hk); (try clear hi)) | ((with_reducible refine gate_callee (f := 53) rfl ?_); refine goesL_ (some 60) rfl rfl Try.func53 Z0 rfl #[.slice Ao20 t499.length co20, .int .i64 1] rfl (Z61 HO_5) ?_; (with_reducible refine (laws_heldItemS.calls kj12 _ _ t499 1 t508 _ ?side1 ?side2 A40.out).mono ?_); (case side1 => exact (Z26 HO_5)); (case side2 => rw [show t499.length = t487.length from (Kd.R_reads' HO_5.out).1.symm]; exact (Kd.R_reads' HO_5.out).2.1); rintro e w58 ⟨rfl, hb⟩; refine ⟨_, rfl, ?_⟩; replace HO_3 := Z (Kd.R_below (Z12 HO_3) hb); replace HO_5 := Z (Kd.R_below (Z12 HO_5) hb); replace HO503 := Z (Kd.R_below (Z12 HO503) hb); replace HO506 := Z (Kd.R_below (Z12 HO506) hb); replace HB := Z (below_step Z62 hb); (try clear hb); (try clear hb2); (try clear hk); (try clear hi)))
            go_ret
            exact ⟨Z13, Z62⟩
           ·rw [if_neg c50] at H
            have c50b0 : (t508 == t498) = false := beq_eq_false_iff_ne.mpr c50
            have c50b1 : (t508 != t498) = true := bne_iff_ne.mpr c50
            obtain rfl := Option.some.inj H
            go_wp2_with (first | ((with_reducible refine gate_callee (f := 49) rfl ?_); refine goesL_ (some 42) rfl rfl Try.func49 Z0 rfl #[.slice Ao20 t487.length co20, .int .i64 1] rfl Z4 ?_; (with_reducible refine (laws_markItemS.calls kj12 (fun k_ => some k_ = (.slice Ao20 t487.length co20 : Value).ownBlock) (.slice Ao20 t487.length co20) t487 1 t498 t499 w _ ?side1 ?side2 A30.out).mono ?_); (case side1 => exact Z62); (case side2 => exact Kd.R_tight rfl HO_5.out); rintro e w59 ⟨rfl, hy0, hb, hkp⟩; refine ⟨_, rfl, ?_⟩; replace HO_3 := Z (Kd.R_mono (ok' := fun k_ => some k_ ≠ (.slice Ao20 t487.length co20 : Value).ownBlock) (Kd.R_keptB (HO_3.out) hkp (fun k_ hk_ hs_ => (hk_) hs_)) (fun k_ hk_ => hk_.1)); replace HO_5 := Z (Kd.R_reok rfl hy0 (fun k_ e_ => HO_5.out.1 k_ e_)); replace HB := Z (hb); (try clear hb); (try clear hkp); (try clear hy0)) | ((with_reducible refine gate_callee (f := 53) rfl ?_); refine goesL_ (some 45) rfl rfl Try.func53 Z0 rfl #[.slice Ao20 t499.length co20, .int .i64 1] rfl (Z61 HO_5) ?_; (with_reducible refine (laws_heldItemS.calls kj12 _ _ t499 1 t500 _ ?side1 ?side2 A31.out).mono ?_); (case side1 => exact (Z26 HO_5)); (case side2 => rw [show t499.length = t487.length from (Kd.R_reads' HO_5.out).1.symm]; exact (Kd.R_reads' HO_5.out).2.1); rintro e w60 ⟨rfl, hb⟩; refine ⟨_, rfl, ?_⟩; replace HO_3 := Z (Kd.R_below (Z12 HO_3) hb); replace HO_5 := Z (Kd.R_below (Z12 HO_5) hb); replace HB := Z (below_step Z62 hb); (try clear hb); (try clear hb2); (try clear hk); (try clear hi)) | ((with_reducible refine gate_callee (f := 50) rfl ?_); refine goesL_ (some 52) rfl rfl Try.func50 Z0 rfl #[.slice A0 l0.length c0] rfl Z4 ?_; (with_reducible refine (laws_toUint32S.calls kj12 _ _ l0 t501 _ ?side1 ?side2 A36.out).mono ?_); (case side1 => exact (Z27 HR0)); (case side2 => exact HC0.out); rintro e w61 ⟨v502, rfl, ho0, hb⟩; refine ⟨_, rfl, ?_⟩; replace HO_3 := Z (Kd.R_below (Z12 HO_3) hb); replace HO_5 := Z (Kd.R_below (Z12 HO_5) hb); have HO503 := Z (Kd.R_lower ho0 (below_size Z62)); replace HB := Z (below_step Z62 hb); (try clear hb); (try clear hb2); (try clear hk); (try clear hi); (try clear ho0); obtain ⟨Ao62, co62, eo62⟩ := Kd.R_slice HO503.out; subst eo62) | ((with_reducible refine gate_callee (f := 15) rfl ?_); refine goesL_ (some 53) rfl rfl Try.func15 Z0 rfl #[.slice Ao62 t501.length co62] rfl Z4 ?_; (with_reducible refine (impl_ParseCells.calls kj12 (fun k_ => some k_ = (.slice Ao62 t501.length co62 : Value).ownBlock) _ _ t501 t504 _ ?side1 A37.out).mono ?_); (case side1 => exact Kd.R_V (Kd.R_tight rfl (Kd.R_apart' (Kd.R_apart' (HO503.out) (Kd.R_typed HO_3.out) (by decide)) (Kd.R_typed HO_5.out) (by decide)))); rintro e w63 ⟨v505, rfl, ho0, hb⟩; refine ⟨_, rfl, ?_⟩; replace HO503 := Z (Kd.R_below (Z12 HO503) hb); have HO506 := Z (Kd.R_lower (Kd.R_new' (Kd.R_new' (Kd.R_mono (ok' := fun k_ => True) ho0 (fun _ hk_ => trivial)) (Kd.R_lt (Z12 HO_3))) (Kd.R_lt (Z12 HO_5))) (below_size Z62)); replace HO_3 := Z (Kd.R_elder' (Z12 HO_3) (Kd.R_base ho0) hb); replace HO_5 := Z (Kd.R_elder' (Z12 HO_5) (Kd.R_base ho0) hb); replace HB := Z (below_step Z62 hb); (try clear hb); (try clear hb2); (try clear hk); (try clear hi); (try clear ho0); obtain ⟨Ao64, co64, eo64⟩ := Kd.R_slice HO506.out; subst eo64) | ((with_reducible refine gate_callee (f := 48) rfl ?_); refine goesL_ (some 56) rfl rfl Try.func48 Z0 rfl #[.slice Ao64 t504.length co64, .slice Ao21 t481.length co21] rfl Z4 ?_; (with_reducible refine (laws_eqItemS.calls kj12 _ _ t504 _ _ t481 true _ ?side1 ?side2 ?side3 ?side4 A38.out).mono ?_); (case side1 => exact (Z26 HO506)); (case side2 => exact (Kd.R_reads' HO506.out).2.1); (case side3 => exact (Z26 HO_3)); (case side4 => exact (Kd.R_reads' HO_3.out).2.1); rintro e w65 ⟨rfl, hb⟩; refine ⟨_, rfl, ?_⟩; replace HO_3 := Z (Kd.R_below (Z12 HO_3) hb); replace HO_5 := Z (Kd.R_below (Z12 HO_5) hb); replace HO503 := Z (Kd.R_below (Z12 HO503) hb); replace HO506 := Z (Kd.R_below (Z12 HO506) hb); replace HB := Z (below_step Z62 hb); (try clear hb); (try clear hb2); (try clear hk); (try clear hi)) | ((with_reducible refine gate_callee (f := 53) rfl ?_); refine goesL_ (some 60) rfl rfl Try.func53 Z0 rfl #[.slice Ao20 t499.length co20, .int .i64 1] rfl (Z61 HO_5) ?_; (with_reducible refine (laws_heldItemS.calls kj12 _ _ t499 1 t508 _ ?side1 ?side2 A40.out).mono ?_); (case side1 => exact (Z26 HO_5)); (case side2 => rw [show t499.length = t487.length from (Kd.R_reads' HO_5.out).1.symm]; exact (Kd.R_reads' HO_5.out).2.1); rintro e w66 ⟨rfl, hb⟩; refine ⟨_, rfl, ?_⟩; replace HO_3 := Z (Kd.R_below (Z12 HO_3) hb); replace HO_5 := Z (Kd.R_below (Z12 HO_5) hb); replace HO503 := Z (Kd.R_below (Z12 HO503) hb); replace HO506 := Z (Kd.R_below (Z12 HO506) hb); replace HB := Z (below_step Z62 hb); (try clear hb); (try clear hb2); (try clear hk); (try clear hi)))
            go_ret
            exact ⟨Z13, Z62⟩
         ·replace c39 := Bool.eq_false_iff.mpr c39
          subst c39
          have H1 : (some false) = some r := by rw [if_neg (show ¬ (false = true) by decide)] at H; exact H
          clear H
          have H := H1
          clear H1
          obtain rfl := Option.some.inj H
          go_wp2_with (first | ((with_reducible refine gate_callee (f := 49) rfl ?_); refine goesL_ (some 42) rfl rfl Try.func49 Z0 rfl #[.slice Ao20 t487.length co20, .int .i64 1] rfl Z4 ?_; (with_reducible refine (laws_markItemS.calls kj12 (fun k_ => some k_ = (.slice Ao20 t487.length co20 : Value).ownBlock) (.slice Ao20 t487.length co20) t487 1 t498 t499 w _ ?side1 ?side2 A30.out).mono ?_); (case side1 => exact Z62); (case side2 => exact Kd.R_tight rfl HO_5.out); rintro e w67 ⟨rfl, hy0, hb, hkp⟩; refine ⟨_, rfl, ?_⟩; replace HO_3 := Z (Kd.R_mono (ok' := fun k_ => some k_ ≠ (.slice Ao20 t487.length co20 : Value).ownBlock) (Kd.R_keptB (HO_3.out) hkp (fun k_ hk_ hs_ => (hk_) hs_)) (fun k_ hk_ => hk_.1)); replace HO_5 := Z (Kd.R_reok rfl hy0 (fun k_ e_ => HO_5.out.1 k_ e_)); replace HB := Z (hb); (try clear hb); (try clear hkp); (try clear hy0)) | ((with_reducible refine gate_callee (f := 53) rfl ?_); refine goesL_ (some 45) rfl rfl Try.func53 Z0 rfl #[.slice Ao20 t499.length co20, .int .i64 1] rfl (Z61 HO_5) ?_; (with_reducible refine (laws_heldItemS.calls kj12 _ _ t499 1 t500 _ ?side1 ?side2 A31.out).mono ?_); (case side1 => exact (Z26 HO_5)); (case side2 => rw [show t499.length = t487.length from (Kd.R_reads' HO_5.out).1.symm]; exact (Kd.R_reads' HO_5.out).2.1); rintro e w68 ⟨rfl, hb⟩; refine ⟨_, rfl, ?_⟩; replace HO_3 := Z (Kd.R_below (Z12 HO_3) hb); replace HO_5 := Z (Kd.R_below (Z12 HO_5) hb); replace HB := Z (below_step Z62 hb); (try clear hb); (try clear hb2); (try clear hk); (try clear hi)) | ((with_reducible refine gate_callee (f := 50) rfl ?_); refine goesL_ (some 52) rfl rfl Try.func50 Z0 rfl #[.slice A0 l0.length c0] rfl Z4 ?_; (with_reducible refine (laws_toUint32S.calls kj12 _ _ l0 t501 _ ?side1 ?side2 A36.out).mono ?_); (case side1 => exact (Z27 HR0)); (case side2 => exact HC0.out); rintro e w69 ⟨v502, rfl, ho0, hb⟩; refine ⟨_, rfl, ?_⟩; replace HO_3 := Z (Kd.R_below (Z12 HO_3) hb); replace HO_5 := Z (Kd.R_below (Z12 HO_5) hb); have HO503 := Z (Kd.R_lower ho0 (below_size Z62)); replace HB := Z (below_step Z62 hb); (try clear hb); (try clear hb2); (try clear hk); (try clear hi); (try clear ho0); obtain ⟨Ao70, co70, eo70⟩ := Kd.R_slice HO503.out; subst eo70) | ((with_reducible refine gate_callee (f := 15) rfl ?_); refine goesL_ (some 53) rfl rfl Try.func15 Z0 rfl #[.slice Ao70 t501.length co70] rfl Z4 ?_; (with_reducible refine (impl_ParseCells.calls kj12 (fun k_ => some k_ = (.slice Ao70 t501.length co70 : Value).ownBlock) _ _ t501 t504 _ ?side1 A37.out).mono ?_); (case side1 => exact Kd.R_V (Kd.R_tight rfl (Kd.R_apart' (Kd.R_apart' (HO503.out) (Kd.R_typed HO_3.out) (by decide)) (Kd.R_typed HO_5.out) (by decide)))); rintro e w71 ⟨v505, rfl, ho0, hb⟩; refine ⟨_, rfl, ?_⟩; replace HO503 := Z (Kd.R_below (Z12 HO503) hb); have HO506 := Z (Kd.R_lower (Kd.R_new' (Kd.R_new' (Kd.R_mono (ok' := fun k_ => True) ho0 (fun _ hk_ => trivial)) (Kd.R_lt (Z12 HO_3))) (Kd.R_lt (Z12 HO_5))) (below_size Z62)); replace HO_3 := Z (Kd.R_elder' (Z12 HO_3) (Kd.R_base ho0) hb); replace HO_5 := Z (Kd.R_elder' (Z12 HO_5) (Kd.R_base ho0) hb); replace HB := Z (below_step Z62 hb); (try clear hb); (try clear hb2); (try clear hk); (try clear hi); (try clear ho0); obtain ⟨Ao72, co72, eo72⟩ := Kd.R_slice HO506.out; subst eo72) | ((with_reducible refine gate_callee (f := 48) rfl ?_); refine goesL_ (some 56) rfl rfl Try.func48 Z0 rfl #[.slice Ao72 t504.length co72, .slice Ao21 t481.length co21] rfl Z4 ?_; (with_reducible refine (laws_eqItemS.calls kj12 _ _ t504 _ _ t481 false _ ?side1 ?side2 ?side3 ?side4 A38.out).mono ?_); (case side1 => exact (Z26 HO506)); (case side2 => exact (Kd.R_reads' HO506.out).2.1); (case side3 => exact (Z26 HO_3)); (case side4 => exact (Kd.R_reads' HO_3.out).2.1); rintro e w73 ⟨rfl, hb⟩; refine ⟨_, rfl, ?_⟩; replace HO_3 := Z (Kd.R_below (Z12 HO_3) hb); replace HO_5 := Z (Kd.R_below (Z12 HO_5) hb); replace HO503 := Z (Kd.R_below (Z12 HO503) hb); replace HO506 := Z (Kd.R_below (Z12 HO506) hb); replace HB := Z (below_step Z62 hb); (try clear hb); (try clear hb2); (try clear hk); (try clear hi)))
          go_ret
          exact ⟨Z13, Z62⟩
        ·rw [if_neg c35] at H
         have c35b0 : (t500 == t498) = false := beq_eq_false_iff_ne.mpr c35
         have c35b1 : (t500 != t498) = true := bne_iff_ne.mpr c35
         obtain rfl := Option.some.inj H
         go_wp2_with (first | ((with_reducible refine gate_callee (f := 49) rfl ?_); refine goesL_ (some 42) rfl rfl Try.func49 Z0 rfl #[.slice Ao20 t487.length co20, .int .i64 1] rfl Z4 ?_; (with_reducible refine (laws_markItemS.calls kj12 (fun k_ => some k_ = (.slice Ao20 t487.length co20 : Value).ownBlock) (.slice Ao20 t487.length co20) t487 1 t498 t499 w _ ?side1 ?side2 A30.out).mono ?_); (case side1 => exact Z62); (case side2 => exact Kd.R_tight rfl HO_5.out); rintro e w74 ⟨rfl, hy0, hb, hkp⟩; refine ⟨_, rfl, ?_⟩; replace HO_3 := Z (Kd.R_mono (ok' := fun k_ => some k_ ≠ (.slice Ao20 t487.length co20 : Value).ownBlock) (Kd.R_keptB (HO_3.out) hkp (fun k_ hk_ hs_ => (hk_) hs_)) (fun k_ hk_ => hk_.1)); replace HO_5 := Z (Kd.R_reok rfl hy0 (fun k_ e_ => HO_5.out.1 k_ e_)); replace HB := Z (hb); (try clear hb); (try clear hkp); (try clear hy0)) | ((with_reducible refine gate_callee (f := 53) rfl ?_); refine goesL_ (some 45) rfl rfl Try.func53 Z0 rfl #[.slice Ao20 t499.length co20, .int .i64 1] rfl (Z61 HO_5) ?_; (with_reducible refine (laws_heldItemS.calls kj12 _ _ t499 1 t500 _ ?side1 ?side2 A31.out).mono ?_); (case side1 => exact (Z26 HO_5)); (case side2 => rw [show t499.length = t487.length from (Kd.R_reads' HO_5.out).1.symm]; exact (Kd.R_reads' HO_5.out).2.1); rintro e w75 ⟨rfl, hb⟩; refine ⟨_, rfl, ?_⟩; replace HO_3 := Z (Kd.R_below (Z12 HO_3) hb); replace HO_5 := Z (Kd.R_below (Z12 HO_5) hb); replace HB := Z (below_step Z62 hb); (try clear hb); (try clear hb2); (try clear hk); (try clear hi)))
         go_ret
         exact ⟨Z13, Z62⟩
   ·replace c11 := Bool.eq_false_iff.mpr c11
    subst c11
    have H1 : (some false) = some r := by rw [if_neg (show ¬ (false = true) by decide)] at H; exact H
    clear H
    have H := H1
    clear H1
    obtain rfl := Option.some.inj H
    go_enter Try.func10, Try.ntmps10
    go_wp2_with (first | ((with_reducible refine gate_callee (f := 50) rfl ?_); refine goesL_ (some 14) rfl rfl Try.func50 Z0 rfl #[.slice A0 l0.length c0] rfl Z4 ?_; (with_reducible refine (laws_toUint32S.calls k _ _ l0 t478 _ ?side1 ?side2 A3.out).mono ?_); (case side1 => exact (Z60 HR0)); (case side2 => exact HC0.out); rintro e w76 ⟨v479, rfl, ho0, hb⟩; refine ⟨_, rfl, ?_⟩; have HO480 := Z (Kd.R_lower ho0 (below_size Z62)); replace HB := Z (below_step Z62 hb); (try clear hb); (try clear hb2); (try clear hk); (try clear hi); (try clear ho0); obtain ⟨Ao77, co77, eo77⟩ := Kd.R_slice HO480.out; subst eo77) | ((with_reducible refine gate_callee (f := 17) rfl ?_); refine goesL_ (some 15) rfl rfl Try.func17 Z0 rfl #[.slice Ao77 t478.length co77] rfl Z4 ?_; (with_reducible refine (spec_ParseCells.calls k _ _ t478 t481 _ ?side1 ?side2 A4.out).mono ?_); (case side1 => exact (Z26 HO480)); (case side2 => exact (Kd.R_reads' HO480.out).2.1); rintro e w78 ⟨v482, rfl, ho0, hb⟩; refine ⟨_, rfl, ?_⟩; replace HO480 := Z (Kd.R_below (Z12 HO480) hb); have HO483 := Z (Kd.R_lower ho0 (below_size Z62)); replace HB := Z (below_step Z62 hb); (try clear hb); (try clear hb2); (try clear hk); (try clear hi); (try clear ho0)) | ((with_reducible refine gate_callee (f := 50) rfl ?_); refine goesL_ (some 17) rfl rfl Try.func50 Z0 rfl #[.slice A0 l0.length c0] rfl Z4 ?_; (with_reducible refine (laws_toUint32S.calls k _ _ l0 t484 _ ?side1 ?side2 A5.out).mono ?_); (case side1 => exact (Z27 HR0)); (case side2 => exact HC0.out); rintro e w79 ⟨v485, rfl, ho0, hb⟩; refine ⟨_, rfl, ?_⟩; replace HO483 := Z (Kd.R_below (Z12 HO483) hb); have HO486 := Z (Kd.R_lower (Kd.R_new' ho0 (Kd.R_lt (Z12 HO480))) (below_size Z62)); replace HO480 := Z (Kd.R_elder' (Z12 HO480) (Kd.R_base ho0) hb); replace HB := Z (below_step Z62 hb); (try clear hb); (try clear hb2); (try clear hk); (try clear hi); (try clear ho0); obtain ⟨Ao80, co80, eo80⟩ := Kd.R_slice HO486.out; subst eo80) | ((with_reducible refine gate_callee (f := 15) rfl ?_); refine goesL_ (some 19) rfl rfl Try.func15 Z0 rfl #[.slice Ao80 t484.length co80] rfl Z4 ?_; (with_reducible refine (impl_ParseCells.calls k (fun k_ => some k_ = (.slice Ao80 t484.length co80 : Value).ownBlock) _ _ t484 t487 _ ?side1 A6.out).mono ?_); (case side1 => exact Kd.R_V (Kd.R_tight rfl (Kd.R_apart' (HO486.out) (Kd.R_typed HO483.out) (by decide)))); rintro e w81 ⟨v488, rfl, ho0, hb⟩; refine ⟨_, rfl, ?_⟩; replace HO480 := Z (Kd.R_below (Z12 HO480) hb); replace HO486 := Z (Kd.R_below (Z12 HO486) hb); have HO489 := Z (Kd.R_lower (Kd.R_new' (Kd.R_mono (ok' := fun k_ => True) ho0 (fun _ hk_ => trivial)) (Kd.R_lt (Z12 HO483))) (below_size Z62)); replace HO483 := Z (Kd.R_elder' (Z12 HO483) (Kd.R_base ho0) hb); replace HB := Z (below_step Z62 hb); (try clear hb); (try clear hb2); (try clear hk); (try clear hi); (try clear ho0); obtain ⟨Ao82, co82, eo82⟩ := Kd.R_slice HO489.out; subst eo82; obtain ⟨Ao83, co83, eo83⟩ := Kd.R_slice HO483.out; subst eo83) | ((with_reducible refine gate_callee (f := 48) rfl ?_); refine goesL_ (some 22) rfl rfl Try.func48 Z0 rfl #[.slice Ao82 t487.length co82, .slice Ao83 t481.length co83] rfl Z4 ?_; (with_reducible refine (laws_eqItemS.calls k _ _ t487 _ _ t481 true _ ?side1 ?side2 ?side3 ?side4 A7.out).mono ?_); (case side1 => exact (Z26 HO489)); (case side2 => exact (Kd.R_reads' HO489.out).2.1); (case side3 => exact (Z26 HO483)); (case side4 => exact (Kd.R_reads' HO483.out).2.1); rintro e w84 ⟨rfl, hb⟩; refine ⟨_, rfl, ?_⟩; replace HO480 := Z (Kd.R_below (Z12 HO480) hb); replace HO483 := Z (Kd.R_below (Z12 HO483) hb); replace HO486 := Z (Kd.R_below (Z12 HO486) hb); replace HO489 := Z (Kd.R_below (Z12 HO489) hb); replace HB := Z (below_step Z62 hb); (try clear hb); (try clear hb2); (try clear hk); (try clear hi)) | ((with_reducible refine gate_callee (f := 50) rfl ?_); refine goesL_ (some 26) rfl rfl Try.func50 Z0 rfl #[.slice A0 l0.length c0] rfl Z4 ?_; (with_reducible refine (laws_toUint32S.calls k _ _ l0 t491 _ ?side1 ?side2 A9.out).mono ?_); (case side1 => exact (Z27 HR0)); (case side2 => exact HC0.out); rintro e w85 ⟨v492, rfl, ho0, hb⟩; refine ⟨_, rfl, ?_⟩; replace HO483 := Z (Kd.R_below (Z12 HO483) hb); replace HO489 := Z (Kd.R_below (Z12 HO489) hb); have HO493 := Z (Kd.R_lower (Kd.R_new' (Kd.R_new' ho0 (Kd.R_lt (Z12 HO480))) (Kd.R_lt (Z12 HO486))) (below_size Z62)); replace HO480 := Z (Kd.R_elder' (Z12 HO480) (Kd.R_base ho0) hb); replace HO486 := Z (Kd.R_elder' (Z12 HO486) (Kd.R_base ho0) hb); replace HB := Z (below_step Z62 hb); (try clear hb); (try clear hb2); (try clear hk); (try clear hi); (try clear ho0); obtain ⟨Ao86, co86, eo86⟩ := Kd.R_slice HO493.out; subst eo86) | ((with_reducible refine gate_callee (f := 51) rfl ?_); refine goesL_ (some 27) rfl rfl Try.func51 Z0 rfl #[.slice Ao80 t484.length co80, .slice Ao86 t491.length co86] rfl Z4 ?_; (with_reducible refine (laws_eqUint32S.calls k _ _ t484 _ _ t491 false _ ?side1 ?side2 ?side3 ?side4 A10.out).mono ?_); (case side1 => exact (Z26 HO486)); (case side2 => exact (Kd.R_reads' HO486.out).2.1); (case side3 => exact (Z26 HO493)); (case side4 => exact (Kd.R_reads' HO493.out).2.1); rintro e w' ⟨rfl, ⟨nd, rfl⟩⟩; refine ⟨_, rfl, ?_⟩))
    go_ret
    exact ⟨Z13, Z62⟩
  ·replace c8 := Bool.eq_false_iff.mpr c8
   subst c8
   have H1 : (some false) = some r := by rw [if_neg (show ¬ (false = true) by decide)] at H; exact H
   clear H
   have H := H1
   clear H1
   obtain rfl := Option.some.inj H
   go_enter Try.func10, Try.ntmps10
   go_wp2_with (first | ((with_reducible refine gate_callee (f := 50) rfl ?_); refine goesL_ (some 14) rfl rfl Try.func50 Z0 rfl #[.slice A0 l0.length c0] rfl Z4 ?_; (with_reducible refine (laws_toUint32S.calls k _ _ l0 t478 _ ?side1 ?side2 A3.out).mono ?_); (case side1 => exact (Z60 HR0)); (case side2 => exact HC0.out); rintro e w87 ⟨v479, rfl, ho0, hb⟩; refine ⟨_, rfl, ?_⟩; have HO480 := Z (Kd.R_lower ho0 (below_size Z62)); replace HB := Z (below_step Z62 hb); (try clear hb); (try clear hb2); (try clear hk); (try clear hi); (try clear ho0); obtain ⟨Ao88, co88, eo88⟩ := Kd.R_slice HO480.out; subst eo88) | ((with_reducible refine gate_callee (f := 17) rfl ?_); refine goesL_ (some 15) rfl rfl Try.func17 Z0 rfl #[.slice Ao88 t478.length co88] rfl Z4 ?_; (with_reducible refine (spec_ParseCells.calls k _ _ t478 t481 _ ?side1 ?side2 A4.out).mono ?_); (case side1 => exact (Z26 HO480)); (case side2 => exact (Kd.R_reads' HO480.out).2.1); rintro e w89 ⟨v482, rfl, ho0, hb⟩; refine ⟨_, rfl, ?_⟩; replace HO480 := Z (Kd.R_below (Z12 HO480) hb); have HO483 := Z (Kd.R_lower ho0 (below_size Z62)); replace HB := Z (below_step Z62 hb); (try clear hb); (try clear hb2); (try clear hk); (try clear hi); (try clear ho0)) | ((with_reducible refine gate_callee (f := 50) rfl ?_); refine goesL_ (some 17) rfl rfl Try.func50 Z0 rfl #[.slice A0 l0.length c0] rfl Z4 ?_; (with_reducible refine (laws_toUint32S.calls k _ _ l0 t484 _ ?side1 ?side2 A5.out).mono ?_); (case side1 => exact (Z27 HR0)); (case side2 => exact HC0.out); rintro e w90 ⟨v485, rfl, ho0, hb⟩; refine ⟨_, rfl, ?_⟩; replace HO483 := Z (Kd.R_below (Z12 HO483) hb); have HO486 := Z (Kd.R_lower (Kd.R_new' ho0 (Kd.R_lt (Z12 HO480))) (below_size Z62)); replace HO480 := Z (Kd.R_elder' (Z12 HO480) (Kd.R_base ho0) hb); replace HB := Z (below_step Z62 hb); (try clear hb); (try clear hb2); (try clear hk); (try clear hi); (try clear ho0); obtain ⟨Ao91, co91, eo91⟩ := Kd.R_slice HO486.out; subst eo91) | ((with_reducible refine gate_callee (f := 15) rfl ?_); refine goesL_ (some 19) rfl rfl Try.func15 Z0 rfl #[.slice Ao91 t484.length co91] rfl Z4 ?_; (with_reducible refine (impl_ParseCells.calls k (fun k_ => some k_ = (.slice Ao91 t484.length co91 : Value).ownBlock) _ _ t484 t487 _ ?side1 A6.out).mono ?_); (case side1 => exact Kd.R_V (Kd.R_tight rfl (Kd.R_apart' (HO486.out) (Kd.R_typed HO483.out) (by decide)))); rintro e w92 ⟨v488, rfl, ho0, hb⟩; refine ⟨_, rfl, ?_⟩; replace HO480 := Z (Kd.R_below (Z12 HO480) hb); replace HO486 := Z (Kd.R_below (Z12 HO486) hb); have HO489 := Z (Kd.R_lower (Kd.R_new' (Kd.R_mono (ok' := fun k_ => True) ho0 (fun _ hk_ => trivial)) (Kd.R_lt (Z12 HO483))) (below_size Z62)); replace HO483 := Z (Kd.R_elder' (Z12 HO483) (Kd.R_base ho0) hb); replace HB := Z (below_step Z62 hb); (try clear hb); (try clear hb2); (try clear hk); (try clear hi); (try clear ho0); obtain ⟨Ao93, co93, eo93⟩ := Kd.R_slice HO489.out; subst eo93; obtain ⟨Ao94, co94, eo94⟩ := Kd.R_slice HO483.out; subst eo94) | ((with_reducible refine gate_callee (f := 48) rfl ?_); refine goesL_ (some 22) rfl rfl Try.func48 Z0 rfl #[.slice Ao93 t487.length co93, .slice Ao94 t481.length co94] rfl Z4 ?_; (with_reducible refine (laws_eqItemS.calls k _ _ t487 _ _ t481 false _ ?side1 ?side2 ?side3 ?side4 A7.out).mono ?_); (case side1 => exact (Z26 HO489)); (case side2 => exact (Kd.R_reads' HO489.out).2.1); (case side3 => exact (Z26 HO483)); (case side4 => exact (Kd.R_reads' HO483.out).2.1); rintro e w95 ⟨rfl, hb⟩; refine ⟨_, rfl, ?_⟩; replace HO480 := Z (Kd.R_below (Z12 HO480) hb); replace HO483 := Z (Kd.R_below (Z12 HO483) hb); replace HO486 := Z (Kd.R_below (Z12 HO486) hb); replace HO489 := Z (Kd.R_below (Z12 HO489) hb); replace HB := Z (below_step Z62 hb); (try clear hb); (try clear hb2); (try clear hk); (try clear hi)))
   go_ret
   exact ⟨Z13, Z62⟩

/-- THE ONE PURE STATEMENT of laws_FnExactParseCells: yours. -/
def laws_FnExactParseCells.Pure : Prop := ∀ (l0 : List Int), l0.length ≤ maxLen → l0.length * 4 ≤ 140737488351232 → (∀ x ∈ l0, (Lit.int .u32 x).wf = true) → ∃ k, laws_FnExactParseCells.f k l0 = some true
theorem laws_FnExactParseCells.walk (P : laws_FnExactParseCells.Pure) (a0 : Option Addr) (len0 cap0 : Nat) (z0 : List Int) (w : World) (w0 : (a0 = none ∧ len0 = 0 ∧ cap0 = 0 ∧ z0 = []) ∨ ∃ x, a0 = some x ∧ len0 ≤ cap0 ∧ cap0 ≤ maxLen ∧ z0.length = cap0 ∧ (∀ i, i < z0.length → w.cell? (x.add i) = some (.int .u32 (z0.getD i 0))) ∧ ∀ n ∈ z0, (Lit.int .u32 n).wf = true) (y0 : len0 * 4 ≤ 140737488351232) :
  Calls Try.prog 10 #[.slice a0 len0 cap0] w fun e w' => e = .returned (.bool true) ∧ Below w.heap.size w w' := by
 obtain ⟨l0, rfl, hr0, hm0, hw0, hc0⟩ := ReadsInt.ofRowC w0
 obtain ⟨k, h⟩ := P l0 hm0 y0 hw0
 refine (laws_FnExactParseCells.calls k _ _ l0 true w (Kd.C_of_reads (d := (0 : Int)) (h1 := fun _ => rfl) hr0) hc0 h).mono ?_
 rintro e w' ⟨rfl, hd⟩
 exact ⟨rfl, hd⟩

end Go.Proofs.Ytkkiibjnpkjijaa.QFnExactParseCells
