/-
Plain functions for the Go functions that a law reaches, each with a proof that the translation's call comes to just that; no conditions beyond those written in each.
-/
import Derived.Test.YtkkiibjnpkjijaaSFnExactItemsOf
import Derived.Test.YtkkiibjnpkjijaaQFnExactItemsOfx2
import Derived.Test.YtkkiibjnpkjijaaQFnExactItemsOfx3
import Derived.Test.YtkkiibjnpkjijaaQFnExactItemsOfx4
import Derived.Test.YtkkiibjnpkjijaaQFnExactItemsOfx11
import Derived.Test.YtkkiibjnpkjijaaQFnExactItemsOfx16
namespace Go.Proofs.Ytkkiibjnpkjijaa.QFnExactItemsOf
open Go.RowKit Go.Proofs.YtkkiibjnpkjijaaW.PrintWords Go.Proofs.YtkkiibjnpkjijaaW.PrintLast Go.Proofs.YtkkiibjnpkjijaaW.PrintMore
attribute [local go_sem] max2_int min2_int max_two min_two max_three min_three max_four min_four   -- for this text's walks alone
set_option linter.unusedVariables false
set_option linter.unusedSimpArgs false

/-! ### laws_FnExactItemsOf: function 12 -/
mutual
def laws_FnExactItemsOf.j0 : Nat → Int → List (S51) → Bool → List (S51) → Bool → Bool → List Int → List Int → Option (Bool)
 | 0, _, _, _, _, _, _, _, _ => none
 | k + 1, x1, x6, x7, x9, x10, x44, x537000, x549000 => if x44 = true then (some false) else ((laws_toStore.f k x537000).bind fun t554 => ((laws_eqStore.f k x549000 t554).bind fun t557 => (if t557 = true then ((laws_markStore.f k x549000 1).bind fun bt558 => (if bt558.1 < 0 then (laws_FnExactItemsOf.j1 k x1 x6 x7 x9 true x537000) else ((laws_eqItemS.f k x9 x6).bind fun t560 => (if t560 = true then (laws_FnExactItemsOf.j1 k x1 x6 x7 x9 (x10 != x7) x537000) else (laws_FnExactItemsOf.j1 k x1 x6 x7 x9 true x537000))))) else (some false))))
def laws_FnExactItemsOf.j1 : Nat → Int → List (S51) → Bool → List (S51) → Bool → List Int → Option (Bool)
 | 0, _, _, _, _, _, _ => none
 | k + 1, x1, x6, x7, x9, x65, x537000 => if x65 = true then (some false) else ((laws_markItemS.f k x9 1).bind fun bt561 => ((laws_heldItemS.f k bt561.2 1).bind fun t563 => (if t563 < 0 then (some false) else (if t563 = bt561.1 then ((laws_toStore.f k x537000).bind fun t564 => ((impl_ItemsOf.f k t564 x1).bind fun bt567 => ((laws_eqItemS.f k bt567.1 x6).bind fun t571 => (if t571 = true then (laws_FnExactItemsOf.j2 k bt561.2 bt561.1 (bt567.2 != x7)) else (laws_FnExactItemsOf.j2 k bt561.2 bt561.1 true))))) else (some false)))))
def laws_FnExactItemsOf.j2 : Nat → List (S51) → Int → Bool → Option (Bool)
 | 0, _, _, _ => none
 | k + 1, x9, x12, x92 => if x92 = true then (some false) else ((laws_heldItemS.f k x9 1).bind fun t572 => (if t572 < 0 then (some false) else (if t572 = x12 then (some true) else (some false))))
end
def laws_FnExactItemsOf.f (k : Nat) (l0_0 : List Int) (a1 : Int) : Option (Bool) := (laws_szStore.f l0_0 1048576).bind fun t537 => (if t537 < 0 then (some true) else ((laws_toStore.f k l0_0).bind fun t538 => ((spec_ItemsOf.f k t538 a1).bind fun bt541 => ((laws_toStore.f k l0_0).bind fun t545 => ((impl_ItemsOf.f k t545 a1).bind fun bt549 => ((laws_eqItemS.f k bt549.1 bt541.1).bind fun t553 => (if t553 = true then (laws_FnExactItemsOf.j0 k a1 bt541.1 bt541.2 bt549.1 bt549.2 (bt549.2 != bt541.2) l0_0 t545) else (laws_FnExactItemsOf.j0 k a1 bt541.1 bt541.2 bt549.1 bt549.2 true l0_0 t545))))))))
theorem laws_FnExactItemsOf.mono_l : ∀ k, (∀ y0 y1 y2 y3 y4 y5 y6 y7, LeO (laws_FnExactItemsOf.j0 k y0 y1 y2 y3 y4 y5 y6 y7) (laws_FnExactItemsOf.j0 (k + 1) y0 y1 y2 y3 y4 y5 y6 y7)) ∧ (∀ y0 y1 y2 y3 y4 y5, LeO (laws_FnExactItemsOf.j1 k y0 y1 y2 y3 y4 y5) (laws_FnExactItemsOf.j1 (k + 1) y0 y1 y2 y3 y4 y5)) ∧ (∀ y0 y1 y2, LeO (laws_FnExactItemsOf.j2 k y0 y1 y2) (laws_FnExactItemsOf.j2 (k + 1) y0 y1 y2))
 | 0 => ⟨fun _ _ _ _ _ _ _ _ r h => by simp [laws_FnExactItemsOf.j0] at h, fun _ _ _ _ _ _ r h => by simp [laws_FnExactItemsOf.j1] at h, fun _ _ _ r h => by simp [laws_FnExactItemsOf.j2] at h⟩
 | k + 1 => by
  obtain ⟨ih0, ih1, ih2⟩ := laws_FnExactItemsOf.mono_l k
  refine ⟨?_, ?_, ?_⟩
  ·intro y0 y1 y2 y3 y4 y5 y6 y7
   unfold laws_FnExactItemsOf.j0
   repeat' first
   | (with_reducible exact ih0 _ _ _ _ _ _ _ _)
   | (with_reducible exact ih1 _ _ _ _ _ _)
   | (with_reducible exact ih2 _ _ _)
   | (with_reducible exact impl_ItemsOf.mono _ _ _)
   | (with_reducible exact laws_eqItemS.mono _ _ _)
   | (with_reducible exact laws_eqStore.mono _ _ _)
   | (with_reducible exact laws_heldItemS.mono _ _ _)
   | (with_reducible exact laws_markItemS.mono _ _ _)
   | (with_reducible exact laws_markStore.mono _ _ _)
   | (with_reducible exact laws_toStore.mono _ _)
   | (with_reducible exact spec_ItemsOf.mono _ _ _)
   | (with_reducible exact LeO.refl _)
   | (with_reducible exact LeO.none _)
   | (with_reducible refine LeO.ite ?_ ?_)
   | (with_reducible refine LeO.bind ?_ (fun _ => ?_))
   | exact ih0 _ _ _ _ _ _ _ _
   | exact ih1 _ _ _ _ _ _
   | exact ih2 _ _ _
   | exact impl_ItemsOf.mono _ _ _
   | exact laws_eqItemS.mono _ _ _
   | exact laws_eqStore.mono _ _ _
   | exact laws_heldItemS.mono _ _ _
   | exact laws_markItemS.mono _ _ _
   | exact laws_markStore.mono _ _ _
   | exact laws_toStore.mono _ _
   | exact spec_ItemsOf.mono _ _ _
   | exact LeO.none _
   | refine LeO.ite ?_ ?_
   | refine LeO.bind ?_ (fun _ => ?_)
  ·intro y0 y1 y2 y3 y4 y5
   unfold laws_FnExactItemsOf.j1
   repeat' first
   | (with_reducible exact ih0 _ _ _ _ _ _ _ _)
   | (with_reducible exact ih1 _ _ _ _ _ _)
   | (with_reducible exact ih2 _ _ _)
   | (with_reducible exact impl_ItemsOf.mono _ _ _)
   | (with_reducible exact laws_eqItemS.mono _ _ _)
   | (with_reducible exact laws_eqStore.mono _ _ _)
   | (with_reducible exact laws_heldItemS.mono _ _ _)
   | (with_reducible exact laws_markItemS.mono _ _ _)
   | (with_reducible exact laws_markStore.mono _ _ _)
   | (with_reducible exact laws_toStore.mono _ _)
   | (with_reducible exact spec_ItemsOf.mono _ _ _)
   | (with_reducible exact LeO.refl _)
   | (with_reducible exact LeO.none _)
   | (with_reducible refine LeO.ite ?_ ?_)
   | (with_reducible refine LeO.bind ?_ (fun _ => ?_))
   | exact ih0 _ _ _ _ _ _ _ _
   | exact ih1 _ _ _ _ _ _
   | exact ih2 _ _ _
   | exact impl_ItemsOf.mono _ _ _
   | exact laws_eqItemS.mono _ _ _
   | exact laws_eqStore.mono _ _ _
   | exact laws_heldItemS.mono _ _ _
   | exact laws_markItemS.mono _ _ _
   | exact laws_markStore.mono _ _ _
   | exact laws_toStore.mono _ _
   | exact spec_ItemsOf.mono _ _ _
   | exact LeO.none _
   | refine LeO.ite ?_ ?_
   | refine LeO.bind ?_ (fun _ => ?_)
  ·intro y0 y1 y2
   unfold laws_FnExactItemsOf.j2
   repeat' first
   | (with_reducible exact ih0 _ _ _ _ _ _ _ _)
   | (with_reducible exact ih1 _ _ _ _ _ _)
   | (with_reducible exact ih2 _ _ _)
   | (with_reducible exact impl_ItemsOf.mono _ _ _)
   | (with_reducible exact laws_eqItemS.mono _ _ _)
   | (with_reducible exact laws_eqStore.mono _ _ _)
   | (with_reducible exact laws_heldItemS.mono _ _ _)
   | (with_reducible exact laws_markItemS.mono _ _ _)
   | (with_reducible exact laws_markStore.mono _ _ _)
   | (with_reducible exact laws_toStore.mono _ _)
   | (with_reducible exact spec_ItemsOf.mono _ _ _)
   | (with_reducible exact LeO.refl _)
   | (with_reducible exact LeO.none _)
   | (with_reducible refine LeO.ite ?_ ?_)
   | (with_reducible refine LeO.bind ?_ (fun _ => ?_))
   | exact ih0 _ _ _ _ _ _ _ _
   | exact ih1 _ _ _ _ _ _
   | exact ih2 _ _ _
   | exact impl_ItemsOf.mono _ _ _
   | exact laws_eqItemS.mono _ _ _
   | exact laws_eqStore.mono _ _ _
   | exact laws_heldItemS.mono _ _ _
   | exact laws_markItemS.mono _ _ _
   | exact laws_markStore.mono _ _ _
   | exact laws_toStore.mono _ _
   | exact spec_ItemsOf.mono _ _ _
   | exact LeO.none _
   | refine LeO.ite ?_ ?_
   | refine LeO.bind ?_ (fun _ => ?_)
theorem laws_FnExactItemsOf.mono : ∀ a0 a1 k, LeO (laws_FnExactItemsOf.f k a0 a1) (laws_FnExactItemsOf.f (k + 1) a0 a1) := by
 intro a0 a1 k
 obtain ⟨ih0, ih1, ih2⟩ := laws_FnExactItemsOf.mono_l k
 unfold laws_FnExactItemsOf.f
 repeat' first
   | (with_reducible exact ih0 _ _ _ _ _ _ _ _)
   | (with_reducible exact ih1 _ _ _ _ _ _)
   | (with_reducible exact ih2 _ _ _)
   | (with_reducible exact impl_ItemsOf.mono _ _ _)
   | (with_reducible exact laws_eqItemS.mono _ _ _)
   | (with_reducible exact laws_eqStore.mono _ _ _)
   | (with_reducible exact laws_heldItemS.mono _ _ _)
   | (with_reducible exact laws_markItemS.mono _ _ _)
   | (with_reducible exact laws_markStore.mono _ _ _)
   | (with_reducible exact laws_toStore.mono _ _)
   | (with_reducible exact spec_ItemsOf.mono _ _ _)
   | (with_reducible exact LeO.refl _)
   | (with_reducible exact LeO.none _)
   | (with_reducible refine LeO.ite ?_ ?_)
   | (with_reducible refine LeO.bind ?_ (fun _ => ?_))
   | exact ih0 _ _ _ _ _ _ _ _
   | exact ih1 _ _ _ _ _ _
   | exact ih2 _ _ _
   | exact impl_ItemsOf.mono _ _ _
   | exact laws_eqItemS.mono _ _ _
   | exact laws_eqStore.mono _ _ _
   | exact laws_heldItemS.mono _ _ _
   | exact laws_markItemS.mono _ _ _
   | exact laws_markStore.mono _ _ _
   | exact laws_toStore.mono _ _
   | exact spec_ItemsOf.mono _ _ _
   | exact LeO.none _
   | refine LeO.ite ?_ ?_
   | refine LeO.bind ?_ (fun _ => ?_)
set_option maxHeartbeats 8000000 in
set_option maxRecDepth 100000 in
theorem laws_FnExactItemsOf.calls (k : Nat) (A0_0 : Option Addr) (c0_0 : Nat) (l0_0 : List Int) (a1 : Int) (r : Bool) (w : World) (hr0_0 : Kd.C (Kd.int .u32) w A0_0 l0_0.length l0_0) (hc0_0 : l0_0.length ≤ c0_0) (h : laws_FnExactItemsOf.f k l0_0 a1 = some r) :
  Calls Try.prog 12 #[.agg #[.slice A0_0 l0_0.length c0_0], .int .i64 a1] w fun e w' => e = .returned (.bool r) ∧ Below w.heap.size w w' := by
 have hu42 := Try.underlying42
 have hu34 := Try.underlying34
 have HR0_0 := Aside0.mk hr0_0
 have HC0_0 := Aside0.mk hc0_0
 clear hr0_0 hc0_0
 have HB := Z (Below.refl w.heap.size w)
 have H : ((laws_szStore.f l0_0 1048576).bind fun t537 => (if t537 < 0 then (some true) else ((laws_toStore.f k l0_0).bind fun t538 => ((spec_ItemsOf.f k t538 a1).bind fun bt541 => ((laws_toStore.f k l0_0).bind fun t545 => ((impl_ItemsOf.f k t545 a1).bind fun bt549 => ((laws_eqItemS.f k bt549.1 bt541.1).bind fun t553 => (if t553 = true then (laws_FnExactItemsOf.j0 k a1 bt541.1 bt541.2 bt549.1 bt549.2 (bt549.2 != bt541.2) l0_0 t545) else (laws_FnExactItemsOf.j0 k a1 bt541.1 bt541.2 bt549.1 bt549.2 true l0_0 t545))))))))) = some r := h
 clear h
 replace H := Option.bind_eq_some_iff.mp H
 obtain ⟨t537, A30, H⟩ := H
 replace H : (if t537 < 0 then (some true) else ((laws_toStore.f k l0_0).bind fun t538 => ((spec_ItemsOf.f k t538 a1).bind fun bt541 => ((laws_toStore.f k l0_0).bind fun t545 => ((impl_ItemsOf.f k t545 a1).bind fun bt549 => ((laws_eqItemS.f k bt549.1 bt541.1).bind fun t553 => (if t553 = true then (laws_FnExactItemsOf.j0 k a1 bt541.1 bt541.2 bt549.1 bt549.2 (bt549.2 != bt541.2) l0_0 t545) else (laws_FnExactItemsOf.j0 k a1 bt541.1 bt541.2 bt549.1 bt549.2 true l0_0 t545)))))))) = some r := H
 have A3 := Aside0.mk A30
 clear A30
 by_cases c4 : t537 < 0
 ·rw [if_pos c4] at H
  have c4b0 : decide (t537 < 0) = true := decide_eq_true c4
  clear c4
  obtain rfl := Option.some.inj H
  go_enter Try.func12, Try.ntmps12
  go_wp2_with (first | ((with_reducible refine gate_dst (N := 2) rfl ?_); refine box_event (by rfl) (N := 2) (by rfl) (cs := #[.slice A0_0 l0_0.length c0_0]) (t := 42) Z8 ?_; intro gb536 hg w5 hbox hb; have BK536 := Z (hbox); have GW536 := Z ((Z85 : w.heap.size ≤ gb536)); have GE536 := Z ((Z85 : w.heap.size ≤ gb536)); replace HB := Z (below_step Z68 hb); clear hb hbox hg; have hcz6_0 : w5.cell? ⟨gb536, 0, none⟩ = some (.slice A0_0 l0_0.length c0_0) := (blk_cell BK536.out 0).trans rfl; have hfz6_0 := blk_frozen BK536.out 0) | ((with_reducible refine gate_callee (f := 29) rfl ?_); refine goesL_ (some 18) rfl rfl Try.func29 Z0 rfl #[.agg #[.slice A0_0 l0_0.length c0_0], .int .i64 1048576] rfl Z11 ?_; (with_reducible refine (laws_szStore.calls _ _ l0_0 1048576 t537 _ ?side1 ?side2 A3.out).mono ?_); (case side1 => exact (Z12 HR0_0)); (case side2 => exact HC0_0.out); rintro e w7 ⟨rfl, hb⟩; refine ⟨_, rfl, ?_⟩; replace BK536 := Z (blk_below (g := gb536) (o := .cells #[.slice A0_0 l0_0.length c0_0] 42 (0, 0)) (Z10 BK536) hb); replace HB := Z (below_step Z68 hb); (try clear hb); (try clear hb2); (try clear hk); (try clear hi)))
  go_ret
  exact ⟨Z13, Z68⟩
 ·rw [if_neg c4] at H
  have c4b0 : decide (t537 < 0) = false := decide_eq_false c4
  clear c4
  replace H := Option.bind_eq_some_iff.mp H
  obtain ⟨t538, A80, H⟩ := H
  replace H : ((spec_ItemsOf.f k t538 a1).bind fun bt541 => ((laws_toStore.f k l0_0).bind fun t545 => ((impl_ItemsOf.f k t545 a1).bind fun bt549 => ((laws_eqItemS.f k bt549.1 bt541.1).bind fun t553 => (if t553 = true then (laws_FnExactItemsOf.j0 k a1 bt541.1 bt541.2 bt549.1 bt549.2 (bt549.2 != bt541.2) l0_0 t545) else (laws_FnExactItemsOf.j0 k a1 bt541.1 bt541.2 bt549.1 bt549.2 true l0_0 t545)))))) = some r := H
  have A8 := Aside0.mk A80
  clear A80
  replace H := Option.bind_eq_some_iff.mp H
  obtain ⟨⟨t541, t544⟩, A90, H⟩ := H
  replace H : ((laws_toStore.f k l0_0).bind fun t545 => ((impl_ItemsOf.f k t545 a1).bind fun bt549 => ((laws_eqItemS.f k bt549.1 t541).bind fun t553 => (if t553 = true then (laws_FnExactItemsOf.j0 k a1 t541 t544 bt549.1 bt549.2 (bt549.2 != t544) l0_0 t545) else (laws_FnExactItemsOf.j0 k a1 t541 t544 bt549.1 bt549.2 true l0_0 t545))))) = some r := H
  have A9 := Aside0.mk A90
  clear A90
  replace H := Option.bind_eq_some_iff.mp H
  obtain ⟨t545, A100, H⟩ := H
  replace H : ((impl_ItemsOf.f k t545 a1).bind fun bt549 => ((laws_eqItemS.f k bt549.1 t541).bind fun t553 => (if t553 = true then (laws_FnExactItemsOf.j0 k a1 t541 t544 bt549.1 bt549.2 (bt549.2 != t544) l0_0 t545) else (laws_FnExactItemsOf.j0 k a1 t541 t544 bt549.1 bt549.2 true l0_0 t545)))) = some r := H
  have A10 := Aside0.mk A100
  clear A100
  replace H := Option.bind_eq_some_iff.mp H
  obtain ⟨⟨t549, t552⟩, A110, H⟩ := H
  replace H : ((laws_eqItemS.f k t549 t541).bind fun t553 => (if t553 = true then (laws_FnExactItemsOf.j0 k a1 t541 t544 t549 t552 (t552 != t544) l0_0 t545) else (laws_FnExactItemsOf.j0 k a1 t541 t544 t549 t552 true l0_0 t545))) = some r := H
  have A11 := Aside0.mk A110
  clear A110
  have HC12 := Aside0.mk H
  clear H
  go_enter Try.func12, Try.ntmps12
  go_upto_region 8 with (first | ((with_reducible refine gate_dst (N := 2) rfl ?_); refine box_event (by rfl) (N := 2) (by rfl) (cs := #[.slice A0_0 l0_0.length c0_0]) (t := 42) Z8 ?_; intro gb536 hg w13 hbox hb; have BK536 := Z (hbox); have GW536 := Z ((Z85 : w.heap.size ≤ gb536)); have GE536 := Z ((Z85 : w.heap.size ≤ gb536)); replace HB := Z (below_step Z68 hb); clear hb hbox hg; have hcz14_0 : w13.cell? ⟨gb536, 0, none⟩ = some (.slice A0_0 l0_0.length c0_0) := (blk_cell BK536.out 0).trans rfl; have hfz14_0 := blk_frozen BK536.out 0) | ((with_reducible refine gate_callee (f := 29) rfl ?_); refine goesL_ (some 18) rfl rfl Try.func29 Z0 rfl #[.agg #[.slice A0_0 l0_0.length c0_0], .int .i64 1048576] rfl Z11 ?_; (with_reducible refine (laws_szStore.calls _ _ l0_0 1048576 t537 _ ?side1 ?side2 A3.out).mono ?_); (case side1 => exact (Z12 HR0_0)); (case side2 => exact HC0_0.out); rintro e w15 ⟨rfl, hb⟩; refine ⟨_, rfl, ?_⟩; replace BK536 := Z (blk_below (g := gb536) (o := .cells #[.slice A0_0 l0_0.length c0_0] 42 (0, 0)) (Z10 BK536) hb); replace HB := Z (below_step Z68 hb); (try clear hb); (try clear hb2); (try clear hk); (try clear hi); have hcz16_0 : w15.cell? ⟨gb536, 0, none⟩ = some (.slice A0_0 l0_0.length c0_0) := (blk_cell BK536.out 0).trans rfl; have hfz16_0 := blk_frozen BK536.out 0) | ((with_reducible refine gate_callee (f := 31) rfl ?_); refine goesL_ (some 23) rfl rfl Try.func31 Z0 rfl #[.agg #[.slice A0_0 l0_0.length c0_0]] rfl Z11 ?_; (with_reducible refine (laws_toStore.calls k _ _ l0_0 t538 _ ?side1 ?side2 A8.out).mono ?_); (case side1 => exact (Z12 HR0_0)); (case side2 => exact HC0_0.out); rintro e w17 ⟨v539, rfl, ho0, hb⟩; refine ⟨_, rfl, ?_⟩; have HO540 := Z (Kd.R_lower ho0 (below_size Z68)); replace BK536 := Z (blk_below (g := gb536) (o := .cells #[.slice A0_0 l0_0.length c0_0] 42 (0, 0)) (Z10 BK536) hb); replace HB := Z (below_step Z68 hb); (try clear hb); (try clear hb2); (try clear hk); (try clear hi); (try clear ho0); obtain ⟨Ao18, co18, eo18⟩ := Kd.R_slice HO540.out; subst eo18) | ((with_reducible refine gate_callee (f := 55) rfl ?_); refine goesL_ (some 25) rfl rfl Try.func55 Z0 rfl #[.agg #[.slice Ao18 t538.length co18], .int .i64 a1] rfl Z11 ?_; (with_reducible refine (spec_ItemsOf.calls k _ _ t538 a1 t541 t544 _ ?side1 ?side2 A9.out).mono ?_); (case side1 => exact (Z22 HO540)); (case side2 => exact (Kd.R_reads' HO540.out).2.1); rintro e w19 ⟨v542, rfl, ho0, hb⟩; refine ⟨_, rfl, ?_⟩; replace HO540 := Z (Kd.R_below (Z14 HO540) hb); have HO543 := Z (Kd.R_lower ho0 (below_size Z68)); replace BK536 := Z (blk_below (g := gb536) (o := .cells #[.slice A0_0 l0_0.length c0_0] 42 (0, 0)) (Z10 BK536) hb); replace HB := Z (below_step Z68 hb); (try clear hb); (try clear hb2); (try clear hk); (try clear hi); (try clear ho0); have hcz20_0 : w19.cell? ⟨gb536, 0, none⟩ = some (.slice A0_0 l0_0.length c0_0) := (blk_cell BK536.out 0).trans rfl; have hfz20_0 := blk_frozen BK536.out 0) | ((with_reducible refine gate_callee (f := 31) rfl ?_); refine goesL_ (some 29) rfl rfl Try.func31 Z0 rfl #[.agg #[.slice A0_0 l0_0.length c0_0]] rfl Z11 ?_; (with_reducible refine (laws_toStore.calls k _ _ l0_0 t545 _ ?side1 ?side2 A10.out).mono ?_); (case side1 => exact (Z12 HR0_0)); (case side2 => exact HC0_0.out); rintro e w21 ⟨v546, rfl, ho0, hb⟩; refine ⟨_, rfl, ?_⟩; replace HO543 := Z (Kd.R_below (Z14 HO543) hb); have HO547 := Z (Kd.R_lower (Kd.R_new' ho0 (Kd.R_lt (Z14 HO540))) (below_size Z68)); replace HO540 := Z (Kd.R_elder' (Z14 HO540) (Kd.R_base ho0) hb); replace BK536 := Z (blk_below (g := gb536) (o := .cells #[.slice A0_0 l0_0.length c0_0] 42 (0, 0)) (Z10 BK536) hb); replace HB := Z (below_step Z68 hb); (try clear hb); (try clear hb2); (try clear hk); (try clear hi); (try clear ho0)) | ((with_reducible refine gate_dst (N := 8) rfl ?_); refine box_event (by rfl) (N := 8) (by rfl) (cs := #[.slice none 0 0]) (t := 34) Z8 ?_; intro gb548 hg w22 hbox hb; replace HO540 := Z (Kd.R_below (Z14 HO540) hb); replace HO543 := Z (Kd.R_below (Z14 HO543) hb); replace HO547 := Z (Kd.R_below (Z14 HO547) hb); have BK548 := Z (hbox); have GW548 := Z ((Z85 : w.heap.size ≤ gb548)); have GE548 := Z ((Z85 : w.heap.size ≤ gb548)); replace HB := Z (below_step Z68 hb); have NB536_548 := Z ((by rw [hg]; exact Nat.ne_of_lt (blk_lt (g := gb536) (o := .cells #[.slice A0_0 l0_0.length c0_0] 42 (0, 0)) (Z10 BK536)) : gb536 ≠ gb548)); have NB548_536 := Z ((by rw [hg]; exact Nat.ne_of_gt (blk_lt (g := gb536) (o := .cells #[.slice A0_0 l0_0.length c0_0] 42 (0, 0)) (Z10 BK536)) : gb548 ≠ gb536)); replace BK536 := Z (blk_below (g := gb536) (o := .cells #[.slice A0_0 l0_0.length c0_0] 42 (0, 0)) (Z10 BK536) hb); clear hb hbox hg; obtain ⟨Ao23, co23, eo23⟩ := Kd.R_slice HO547.out; subst eo23; have hnb24 := NB548_536.out; have hnc24 := NB536_548.out; have hcz25_0 : w22.cell? ⟨gb548, 0, none⟩ = some (.slice none 0 0) := (blk_cell BK548.out 0).trans rfl; have hfz25_0 := blk_frozen BK548.out 0) | ((with_reducible refine gate_callee (f := 56) rfl ?_); refine goesL_ (some 33) rfl rfl Try.func56 Z0 rfl #[.agg #[.slice Ao23 t545.length co23], .int .i64 a1] rfl Z11 ?_; (with_reducible refine (impl_ItemsOf.calls k _ _ t545 a1 t549 t552 _ ?side1 ?side2 A11.out).mono ?_); (case side1 => exact (by refine (Kd.R_reads' (e := 47) (base := w.heap.size) (ok := fun k_ => (True ∧ some k_ ≠ (.slice Ao18 t538.length co18 : Value).ownBlock)) (n := t545.length) (c := co23) ?_).2.2; exact (by (with_reducible repeat (first | apply Kd.R_alloc | apply Kd.R_drewN | apply Kd.R_drew)); exact (Kd.R_mono (Kd.R_far (p := ⟨gb548, 0, none⟩) (Kd.R_types HO547.out BK548.out (by decide)) (fun _ hk => hk.2) (.slice Ao23 t545.length co23)) (fun _ h_ => h_.1))))); (case side2 => exact (Kd.R_reads' HO547.out).2.1); rintro e w26 ⟨v550, rfl, ho0, hb⟩; refine ⟨_, rfl, ?_⟩; replace HO540 := Z (Kd.R_below (by (with_reducible repeat (first | apply Kd.R_alloc | apply Kd.R_drewN | apply Kd.R_drew)); exact (Kd.R_mono (Kd.R_far (p := ⟨gb548, 0, none⟩) (Kd.R_types HO540.out BK548.out (by decide)) (fun _ hk => hk.2) (.slice Ao23 t545.length co23)) (fun _ h_ => h_.1))) hb); replace HO547 := Z (Kd.R_below (by (with_reducible repeat (first | apply Kd.R_alloc | apply Kd.R_drewN | apply Kd.R_drew)); exact (Kd.R_mono (Kd.R_far (p := ⟨gb548, 0, none⟩) (Kd.R_types HO547.out BK548.out (by decide)) (fun _ hk => hk.2) (.slice Ao23 t545.length co23)) (fun _ h_ => h_.1))) hb); have HO551 := Z (Kd.R_lower (Kd.R_new' ho0 (Kd.R_lt (by (with_reducible repeat (first | apply Kd.R_alloc | apply Kd.R_drewN | apply Kd.R_drew)); exact (Kd.R_mono (Kd.R_far (p := ⟨gb548, 0, none⟩) (Kd.R_types HO543.out BK548.out (by decide)) (fun _ hk => hk.2) (.slice Ao23 t545.length co23)) (fun _ h_ => h_.1))))) (below_size Z68)); replace HO543 := Z (Kd.R_elder' (by (with_reducible repeat (first | apply Kd.R_alloc | apply Kd.R_drewN | apply Kd.R_drew)); exact (Kd.R_mono (Kd.R_far (p := ⟨gb548, 0, none⟩) (Kd.R_types HO543.out BK548.out (by decide)) (fun _ hk => hk.2) (.slice Ao23 t545.length co23)) (fun _ h_ => h_.1))) (Kd.R_base ho0) hb); replace BK536 := Z (blk_below (g := gb536) (o := .cells #[.slice A0_0 l0_0.length c0_0] 42 (0, 0)) (by (with_reducible repeat (first | refine blk_drewN ?_ _ | refine blk_drew ?_ | refine blk_alloc ?_ _)); refine blk_far ?_ NB536_548.out _; (with_reducible repeat (first | refine blk_drewN ?_ _ | refine blk_drew ?_ | refine blk_alloc ?_ _)); exact BK536.out) hb); replace BK548 := Z (blk_below (g := gb548) (o := .cells #[.slice Ao23 t545.length co23] 34 (0, 0)) (by (with_reducible repeat (first | refine blk_drewN ?_ _ | refine blk_drew ?_ | refine blk_alloc ?_ _)); refine blk_put (cs := #[.slice none 0 0]) ?_ 0 _ rfl; (with_reducible repeat (first | refine blk_drewN ?_ _ | refine blk_drew ?_ | refine blk_alloc ?_ _)); exact BK548.out) hb); replace HB := Z (below_step Z68 hb); (try clear hb); (try clear hb2); (try clear hk); (try clear hi); (try clear ho0)))
  (try simp only [Act.put, List.setIfInBounds_toArray, List.set_cons_zero, List.set_cons_succ])
  go_cut [44] (fun v44 wc => ∃ (kq : Nat) (x44_11 : Bool), v44 = .bool x44_11 ∧ Aside0 (laws_FnExactItemsOf.j0 kq a1 t541 t544 t549 t552 x44_11 l0_0 t545 = some r) ∧ Aside0 (kq ≤ k) ∧ Aside0 (Kd.R k51 51 wc w.heap.size (fun k_ => some k_ ≠ (v550 : Value).ownBlock) v542 t541) ∧ Aside0 (Kd.R k51 51 wc w.heap.size (fun k_ => some k_ ≠ (v542 : Value).ownBlock) v550 t549) ∧ Aside0 (Kd.R (Kd.int .u32) 47 wc w.heap.size (fun _ => True) (.slice Ao23 t545.length co23) t545) ∧ Aside0 (wc.heap[gb536]? = some (.cells #[(.slice A0_0 l0_0.length c0_0)] 42 (0, 0))) ∧ Aside0 (wc.heap[gb548]? = some (.cells #[(.slice Ao23 t545.length co23)] 34 (0, 0))) ∧ Aside0 (Below w.heap.size w wc))
  case first =>
   have H := HC12.out
   clear HC12
   replace H := Option.bind_eq_some_iff.mp H
   obtain ⟨t553, A270, H⟩ := H
   replace H : (if t553 = true then (laws_FnExactItemsOf.j0 k a1 t541 t544 t549 t552 (t552 != t544) l0_0 t545) else (laws_FnExactItemsOf.j0 k a1 t541 t544 t549 t552 true l0_0 t545)) = some r := H
   have A27 := Aside0.mk A270
   clear A270
   by_cases c28 : t553 = true
   ·subst c28
    have H1 : (laws_FnExactItemsOf.j0 k a1 t541 t544 t549 t552 (t552 != t544) l0_0 t545) = some r := Z7
    clear H
    have H := H1
    clear H1
    have H' := Aside0.mk H
    clear H
    obtain ⟨Ao29, co29, eo29⟩ := Kd.R_slice HO551.out
    subst eo29
    obtain ⟨Ao30, co30, eo30⟩ := Kd.R_slice HO543.out
    subst eo30
    go_wp2_with (first | ((with_reducible refine gate_callee (f := 48) rfl ?_); refine goesL_ (some 38) rfl rfl Try.func48 Z0 rfl #[.slice Ao29 t549.length co29, .slice Ao30 t541.length co30] rfl Z11 ?_; (with_reducible refine (laws_eqItemS.calls k _ _ t549 _ _ t541 true _ ?side1 ?side2 ?side3 ?side4 A27.out).mono ?_); (case side1 => exact (Z22 HO551)); (case side2 => exact (Kd.R_reads' HO551.out).2.1); (case side3 => exact (Z22 HO543)); (case side4 => exact (Kd.R_reads' HO543.out).2.1); rintro e w31 ⟨rfl, hb⟩; refine ⟨_, rfl, ?_⟩; replace HO540 := Z (Kd.R_below (Z14 HO540) hb); replace HO543 := Z (Kd.R_below (Z14 HO543) hb); replace HO547 := Z (Kd.R_below (Z14 HO547) hb); replace HO551 := Z (Kd.R_below (Z14 HO551) hb); replace BK536 := Z (blk_below (g := gb536) (o := .cells #[.slice A0_0 l0_0.length c0_0] 42 (0, 0)) (Z10 BK536) hb); replace BK548 := Z (blk_below (g := gb548) (o := .cells #[.slice Ao23 t545.length co23] 34 (0, 0)) (Z10 BK548) hb); replace HB := Z (below_step Z68 hb); (try clear hb); (try clear hb2); (try clear hk); (try clear hi)))
    go_meet
    case rel => exact ⟨_, ((t552 != t544)), Z3, H', ⟨Z24⟩, ⟨(Z48 HO543)⟩, ⟨(Z48 HO551)⟩, ⟨(Z25 HO547)⟩, ⟨(Z10 BK536)⟩, ⟨(Z10 BK548)⟩, ⟨Z68⟩⟩
   ·replace c28 := Bool.eq_false_iff.mpr c28
    subst c28
    have H1 : (laws_FnExactItemsOf.j0 k a1 t541 t544 t549 t552 true l0_0 t545) = some r := by rw [if_neg (show ¬ (false = true) by decide)] at H; exact H
    clear H
    have H := H1
    clear H1
    have H' := Aside0.mk H
    clear H
    obtain ⟨Ao32, co32, eo32⟩ := Kd.R_slice HO551.out
    subst eo32
    obtain ⟨Ao33, co33, eo33⟩ := Kd.R_slice HO543.out
    subst eo33
    go_wp2_with (first | ((with_reducible refine gate_callee (f := 48) rfl ?_); refine goesL_ (some 38) rfl rfl Try.func48 Z0 rfl #[.slice Ao32 t549.length co32, .slice Ao33 t541.length co33] rfl Z11 ?_; (with_reducible refine (laws_eqItemS.calls k _ _ t549 _ _ t541 false _ ?side1 ?side2 ?side3 ?side4 A27.out).mono ?_); (case side1 => exact (Z22 HO551)); (case side2 => exact (Kd.R_reads' HO551.out).2.1); (case side3 => exact (Z22 HO543)); (case side4 => exact (Kd.R_reads' HO543.out).2.1); rintro e w34 ⟨rfl, hb⟩; refine ⟨_, rfl, ?_⟩; replace HO540 := Z (Kd.R_below (Z14 HO540) hb); replace HO543 := Z (Kd.R_below (Z14 HO543) hb); replace HO547 := Z (Kd.R_below (Z14 HO547) hb); replace HO551 := Z (Kd.R_below (Z14 HO551) hb); replace BK536 := Z (blk_below (g := gb536) (o := .cells #[.slice A0_0 l0_0.length c0_0] 42 (0, 0)) (Z10 BK536) hb); replace BK548 := Z (blk_below (g := gb548) (o := .cells #[.slice Ao23 t545.length co23] 34 (0, 0)) (Z10 BK548) hb); replace HB := Z (below_step Z68 hb); (try clear hb); (try clear hb2); (try clear hk); (try clear hi)))
    go_meet
    case rel => exact ⟨_, (true), Z3, H', ⟨Z24⟩, ⟨(Z48 HO543)⟩, ⟨(Z48 HO551)⟩, ⟨(Z25 HO547)⟩, ⟨(Z10 BK536)⟩, ⟨(Z10 BK548)⟩, ⟨Z68⟩⟩
  case rest =>
   clear HC12
   try clear c1
   try clear c2
   try clear p2
   try clear c3
   try clear c4
   try clear c4b0
   try clear c5
   try clear c12
   try clear c24
   try clear c28
   try clear c29
   try clear c31
   try clear hcz14_0
   try clear hcz16_0
   try clear hcz20_0
   try clear hcz25_0
   try clear hcz6_0
   try clear hfz14_0
   try clear hfz16_0
   try clear hfz20_0
   try clear hfz25_0
   try clear hfz6_0
   obtain ⟨kq, x44_11, rfl, HA, HJ11, HO_6, HO_9, HO_549000, BK536, BK548, HB⟩ := hcut
   cases kq with
   | zero => exact absurd HA.out (by simp [laws_FnExactItemsOf.j0])
   | succ kj11 =>
    have H := HA.out
    clear HA
    simp only [laws_FnExactItemsOf.j0] at H
    by_cases c35 : x44_11 = true
    ·subst c35
     have H1 : (some false) = some r := Z7
     clear H
     have H := H1
     clear H1
     obtain rfl := Option.some.inj H
     go_wp2
     go_ret
     exact ⟨Z13, Z68⟩
    ·replace c35 := Bool.eq_false_iff.mpr c35
     subst c35
     have H1 : ((laws_toStore.f kj11 l0_0).bind fun t554 => ((laws_eqStore.f kj11 t545 t554).bind fun t557 => (if t557 = true then ((laws_markStore.f kj11 t545 1).bind fun bt558 => (if bt558.1 < 0 then (laws_FnExactItemsOf.j1 kj11 a1 t541 t544 t549 true l0_0) else ((laws_eqItemS.f kj11 t549 t541).bind fun t560 => (if t560 = true then (laws_FnExactItemsOf.j1 kj11 a1 t541 t544 t549 (t552 != t544) l0_0) else (laws_FnExactItemsOf.j1 kj11 a1 t541 t544 t549 true l0_0))))) else (some false)))) = some r := by rw [if_neg (show ¬ (false = true) by decide)] at H; exact H
     clear H
     have H := H1
     clear H1
     replace H := Option.bind_eq_some_iff.mp H
     obtain ⟨t554, A360, H⟩ := H
     replace H : ((laws_eqStore.f kj11 t545 t554).bind fun t557 => (if t557 = true then ((laws_markStore.f kj11 t545 1).bind fun bt558 => (if bt558.1 < 0 then (laws_FnExactItemsOf.j1 kj11 a1 t541 t544 t549 true l0_0) else ((laws_eqItemS.f kj11 t549 t541).bind fun t560 => (if t560 = true then (laws_FnExactItemsOf.j1 kj11 a1 t541 t544 t549 (t552 != t544) l0_0) else (laws_FnExactItemsOf.j1 kj11 a1 t541 t544 t549 true l0_0))))) else (some false))) = some r := H
     have A36 := Aside0.mk A360
     clear A360
     replace H := Option.bind_eq_some_iff.mp H
     obtain ⟨t557, A370, H⟩ := H
     replace H : (if t557 = true then ((laws_markStore.f kj11 t545 1).bind fun bt558 => (if bt558.1 < 0 then (laws_FnExactItemsOf.j1 kj11 a1 t541 t544 t549 true l0_0) else ((laws_eqItemS.f kj11 t549 t541).bind fun t560 => (if t560 = true then (laws_FnExactItemsOf.j1 kj11 a1 t541 t544 t549 (t552 != t544) l0_0) else (laws_FnExactItemsOf.j1 kj11 a1 t541 t544 t549 true l0_0))))) else (some false)) = some r := H
     have A37 := Aside0.mk A370
     clear A370
     by_cases c38 : t557 = true
     ·subst c38
      have H1 : ((laws_markStore.f kj11 t545 1).bind fun bt558 => (if bt558.1 < 0 then (laws_FnExactItemsOf.j1 kj11 a1 t541 t544 t549 true l0_0) else ((laws_eqItemS.f kj11 t549 t541).bind fun t560 => (if t560 = true then (laws_FnExactItemsOf.j1 kj11 a1 t541 t544 t549 (t552 != t544) l0_0) else (laws_FnExactItemsOf.j1 kj11 a1 t541 t544 t549 true l0_0))))) = some r := Z7
      clear H
      have H := H1
      clear H1
      replace H := Option.bind_eq_some_iff.mp H
      obtain ⟨⟨t558, t559⟩, A390, H⟩ := H
      replace H : (if t558 < 0 then (laws_FnExactItemsOf.j1 kj11 a1 t541 t544 t549 true l0_0) else ((laws_eqItemS.f kj11 t549 t541).bind fun t560 => (if t560 = true then (laws_FnExactItemsOf.j1 kj11 a1 t541 t544 t549 (t552 != t544) l0_0) else (laws_FnExactItemsOf.j1 kj11 a1 t541 t544 t549 true l0_0)))) = some r := H
      have A39 := Aside0.mk A390
      clear A390
      have HC40 := Aside0.mk H
      clear H
      try go_wp2
      have n0_ := Z (Kd.R_drew HO_6.out)
      have n1_ := Z (Kd.R_drew HO_9.out)
      have n2_ := Z (Kd.R_drew HO_549000.out)
      have n3_ := Z (blk_drew BK536.out)
      have n4_ := Z (blk_drew BK548.out)
      have n5_ := Z (below_drew1 HB.out)
      clear HO_6
      clear HO_9
      clear HO_549000
      clear BK536
      clear BK548
      clear HB
      have HO_6 := n0_
      have HO_9 := n1_
      have HO_549000 := n2_
      have BK536 := n3_
      have BK548 := n4_
      have HB := n5_
      clear n0_ n1_ n2_ n3_ n4_ n5_
      refine start_ (n := 5) (S := fun w' => w'.cell? ⟨gb548, 0, none⟩ = some (.slice Ao23 t545.length co23) ∧ w'.cell? ⟨gb536, 0, none⟩ = some (.slice A0_0 l0_0.length c0_0)) (ds := []) #[false, false, false, false, false] Z0 rfl rfl ⟨(blk_cell BK548.out 0).trans rfl, (blk_cell BK536.out 0).trans rfl⟩ (fun hHeld => ?_)
      generalize wc.drew = w41 at HO_6 HO_9 HO_549000 BK536 BK548 HB hHeld ⊢
      refine take_ (i := 0) (N := some 45) (v := ?_) (a' := ?_) #[true, false, false, false, false] rfl rfl Z0 (fun _ _ _ h => h) (Or.inl ⟨by rfl, ?_⟩) hHeld ?_ ?_
      rotate_left
      ·rintro w' ⟨s0, s1⟩
       go_simp
       with_reducible rfl
      rotate_left
      ·simp only [Act.put, List.setIfInBounds_toArray, List.set_cons_zero, List.set_cons_succ, i64_w, i32_w]
       rfl
      refine take_ (i := 1) (N := some 46) (v := ?_) (a' := ?_) #[true, true, false, false, false] rfl rfl Z0 (fun _ _ _ h => h) (Or.inl ⟨by rfl, ?_⟩) hHeld ?_ ?_
      rotate_left
      ·rintro w' ⟨s0, s1⟩
       go_simp
       with_reducible rfl
      rotate_left
      ·simp only [Act.put, List.setIfInBounds_toArray, List.set_cons_zero, List.set_cons_succ, i64_w, i32_w]
       rfl
      refine one_ (i := 2) (N := some 47) #[true, true, true, false, false] rfl rfl Z0 (by decide) (fun K hK => ?_)
      refine goes_ Try.func31 Z0 rfl #[.agg #[.slice A0_0 l0_0.length c0_0]] (by rfl) rfl rfl Z11 ?_
      with_reducible refine (laws_toStore.calls kj11 _ _ l0_0 t554 _ ?side1 ?side2 A36.out).mono ?_
      (case side1 => exact (Z12 HR0_0))
      (case side2 => exact HC0_0.out)
      rintro e w42 ⟨v555, rfl, ho0, hb⟩
      refine ⟨_, rfl, ?_⟩
      have n0_ := Z (Kd.R_below (Z14 HO_6) hb)
      have n1_ := Z (Kd.R_below (Z14 HO_9) hb)
      have n2_ := Z (Kd.R_elder' (Z14 HO_549000) (Kd.R_base ho0) hb)
      have n3_ := Z (Kd.R_lower (Kd.R_new' ho0 (Kd.R_lt (Z14 HO_549000))) (below_size Z68))
      have n4_ := Z (blk_below (g := gb536) (o := .cells #[.slice A0_0 l0_0.length c0_0] 42 (0, 0)) (Z10 BK536) hb)
      have n5_ := Z (blk_below (g := gb548) (o := .cells #[.slice Ao23 t545.length co23] 34 (0, 0)) (Z10 BK548) hb)
      have n6_ := Z (below_step Z68 hb)
      clear HO_6
      clear HO_9
      clear HO_549000
      clear BK536
      clear BK548
      clear HB
      have HO_6 := n0_
      have HO_9 := n1_
      have HO_549000 := n2_
      have HO556 := n3_
      have BK536 := n4_
      have BK548 := n5_
      have HB := n6_
      clear n0_ n1_ n2_ n3_ n4_ n5_ n6_
      (try clear hb)
      (try clear hb2)
      (try clear hk)
      (try clear hi)
      (try clear ho0)
      obtain ⟨Ao43, co43, eo43⟩ := Kd.R_slice HO556.out
      (first | subst eo43 | (injection eo43 with f1_ f2_ f3_; have f4_ := f1_.symm; have f5_ := f3_.symm; clear f1_ f2_ f3_; subst f4_; subst f5_))
      refine hK.out _ _ ⟨(blk_cell BK548.out 0).trans rfl, (blk_cell BK536.out 0).trans rfl⟩ (fun hHeld => ?_)
      clear hK K
      refine norm_ (a' := ?_) ?_ ?_
      rotate_left
      ·show Act.put _ (some 47) _ = _
       simp only [Act.put, List.setIfInBounds_toArray, List.set_cons_zero, List.set_cons_succ, i64_w, i32_w]
       rfl
      refine one_ (i := 3) (N := some 48) #[true, true, true, true, false] rfl rfl Z0 (by decide) (fun K hK => ?_)
      refine goes_ Try.func24 Z0 rfl #[.agg #[.slice Ao23 t545.length co23], .agg #[.slice Ao43 t554.length co43]] (by rfl) rfl rfl Z11 ?_
      with_reducible refine (laws_eqStore.calls kj11 _ _ t545 _ _ t554 true _ ?side1 ?side2 ?side3 ?side4 A37.out).mono ?_
      (case side1 => exact (Z22 HO_549000))
      (case side2 => exact (Kd.R_reads' HO_549000.out).2.1)
      (case side3 => exact (Z22 HO556))
      (case side4 => exact (Kd.R_reads' HO556.out).2.1)
      rintro e w44 ⟨rfl, hb⟩
      refine ⟨_, rfl, ?_⟩
      have n0_ := Z (Kd.R_below (Z14 HO_6) hb)
      have n1_ := Z (Kd.R_below (Z14 HO_9) hb)
      have n2_ := Z (Kd.R_below (Z14 HO_549000) hb)
      have n3_ := Z (Kd.R_below (Z14 HO556) hb)
      have n4_ := Z (blk_below (g := gb536) (o := .cells #[.slice A0_0 l0_0.length c0_0] 42 (0, 0)) (Z10 BK536) hb)
      have n5_ := Z (blk_below (g := gb548) (o := .cells #[.slice Ao23 t545.length co23] 34 (0, 0)) (Z10 BK548) hb)
      have n6_ := Z (below_step Z68 hb)
      clear HO_6
      clear HO_9
      clear HO_549000
      clear HO556
      clear BK536
      clear BK548
      clear HB
      have HO_6 := n0_
      have HO_9 := n1_
      have HO_549000 := n2_
      have HO556 := n3_
      have BK536 := n4_
      have BK548 := n5_
      have HB := n6_
      clear n0_ n1_ n2_ n3_ n4_ n5_ n6_
      (try clear hb)
      (try clear hb2)
      (try clear hk)
      (try clear hi)
      refine hK.out _ _ ⟨(blk_cell BK548.out 0).trans rfl, (blk_cell BK536.out 0).trans rfl⟩ (fun hHeld => ?_)
      clear hK K
      refine norm_ (a' := ?_) ?_ ?_
      rotate_left
      ·show Act.put _ (some 48) _ = _
       simp only [Act.put, List.setIfInBounds_toArray, List.set_cons_zero, List.set_cons_succ, i64_w, i32_w]
       rfl
      refine pure_ (i := 4) (N := some 49) (v := ?_) (a' := ?_) #[true, true, true, true, true] rfl rfl Z0 (fun _ _ _ h => h) (Or.inl ⟨by rfl, ?_⟩) ?_ ?_
      rotate_left
      ·intro w'
       go_simp
       with_reducible rfl
      rotate_left
      ·simp only [Act.put, List.setIfInBounds_toArray, List.set_cons_zero, List.set_cons_succ, i64_w, i32_w]
       rfl
      refine done_ Z0 ?_
      have hnb45 := NB548_536.out
      have hnc45 := NB536_548.out
      have hcz46_0 : w44.cell? ⟨gb548, 0, none⟩ = some (.slice Ao23 t545.length co23) := (blk_cell BK548.out 0).trans rfl
      have hfz46_0 := blk_frozen BK548.out 0
      go_upto_region 14 with (first | ((with_reducible refine gate_callee (f := 27) rfl ?_); refine goesL_ (some 52) rfl rfl Try.func27 Z0 rfl #[.agg #[.slice Ao23 t545.length co23], .int .i64 1] rfl Z11 ?_; (with_reducible refine (laws_markStore.calls kj11 (fun k_ => some k_ = (.slice Ao23 t545.length co23 : Value).ownBlock) (.slice Ao23 t545.length co23) t545 1 t558 t559 w _ ?side1 ?side2 A39.out).mono ?_); (case side1 => exact Z68); (case side2 => exact Kd.R_tight rfl HO_549000.out); rintro e w47 ⟨rfl, hy0, hb, hkp⟩; refine ⟨_, rfl, ?_⟩; replace HO_6 := Z (Kd.R_mono (ok' := fun k_ => some k_ ≠ (v550 : Value).ownBlock) (Kd.R_keptB ((Kd.R_apart' HO_6.out (Kd.R_typed HO_549000.out) (by decide))) hkp (fun k_ hk_ hs_ => (hk_.2) hs_)) (fun k_ hk_ => hk_.1.1)); replace HO_9 := Z (Kd.R_mono (ok' := fun k_ => some k_ ≠ (v542 : Value).ownBlock) (Kd.R_keptB ((Kd.R_apart' HO_9.out (Kd.R_typed HO_549000.out) (by decide))) hkp (fun k_ hk_ hs_ => (hk_.2) hs_)) (fun k_ hk_ => hk_.1.1)); replace BK536 := Z (blk_kept (g := gb536) (o := .cells #[.slice A0_0 l0_0.length c0_0] 42 (0, 0)) (Z10 BK536) hkp (fun hs_ => (fun e_ => (Kd.R_ne HO_549000.out BK536.out (by decide)) e_) hs_)); replace BK548 := Z (blk_kept (g := gb548) (o := .cells #[.slice Ao23 t545.length co23] 34 (0, 0)) (Z10 BK548) hkp (fun hs_ => (fun e_ => (Kd.R_ne HO_549000.out BK548.out (by decide)) e_) hs_)); replace HO_549000 := Z (Kd.R_reok rfl hy0 (fun k_ e_ => HO_549000.out.1 k_ e_)); replace HO556 := Z (Kd.R_mono (ok' := fun k_ => some k_ ≠ (.slice Ao23 t545.length co23 : Value).ownBlock) (Kd.R_keptB (HO556.out) hkp (fun k_ hk_ hs_ => (hk_.2) hs_)) (fun k_ hk_ => hk_.1.2)); replace HB := Z (hb); (try clear hb); (try clear hkp); (try clear hy0)))
      (try simp only [Act.put, List.setIfInBounds_toArray, List.set_cons_zero, List.set_cons_succ])
      go_cut [65] (fun v65 wc => ∃ (kq : Nat) (x65_39 : Bool), v65 = .bool x65_39 ∧ Aside0 (laws_FnExactItemsOf.j1 kq a1 t541 t544 t549 x65_39 l0_0 = some r) ∧ Aside0 (kq ≤ kj11) ∧ Aside0 (Kd.R k51 51 wc w.heap.size (fun k_ => some k_ ≠ (v550 : Value).ownBlock) v542 t541) ∧ Aside0 (Kd.R k51 51 wc w.heap.size (fun k_ => some k_ ≠ (v542 : Value).ownBlock) v550 t549) ∧ Aside0 (Kd.R (Kd.int .u32) 47 wc w.heap.size (fun _ => True) (.slice Ao23 t545.length co23) t559) ∧ Aside0 (wc.heap[gb536]? = some (.cells #[(.slice A0_0 l0_0.length c0_0)] 42 (0, 0))) ∧ Aside0 (wc.heap[gb548]? = some (.cells #[(.slice Ao23 t545.length co23)] 34 (0, 0))) ∧ Aside0 (Below w.heap.size w wc))
      case first =>
       have H := HC40.out
       clear HC40
       by_cases c48 : t558 < 0
       ·rw [if_pos c48] at H
        have c48b0 : decide (t558 < 0) = true := decide_eq_true c48
        clear c48
        (first | rw [c48b0] | (simp only [i64_w, i32_w]; rw [c48b0]) | skip)
        have H' := Aside0.mk H
        clear H
        go_wp2
        go_meet
        case rel => exact ⟨_, (true), Z3, H', ⟨Z63⟩, ⟨(Z14 HO_6)⟩, ⟨(Z14 HO_9)⟩, ⟨(Z25 HO_549000)⟩, ⟨(Z10 BK536)⟩, ⟨(Z10 BK548)⟩, ⟨Z68⟩⟩
       ·rw [if_neg c48] at H
        have c48b0 : decide (t558 < 0) = false := decide_eq_false c48
        clear c48
        (first | rw [c48b0] | (simp only [i64_w, i32_w]; rw [c48b0]) | skip)
        replace H := Option.bind_eq_some_iff.mp H
        obtain ⟨t560, A490, H⟩ := H
        replace H : (if t560 = true then (laws_FnExactItemsOf.j1 kj11 a1 t541 t544 t549 (t552 != t544) l0_0) else (laws_FnExactItemsOf.j1 kj11 a1 t541 t544 t549 true l0_0)) = some r := H
        have A49 := Aside0.mk A490
        clear A490
        by_cases c50 : t560 = true
        ·subst c50
         have H1 : (laws_FnExactItemsOf.j1 kj11 a1 t541 t544 t549 (t552 != t544) l0_0) = some r := Z7
         clear H
         have H := H1
         clear H1
         have H' := Aside0.mk H
         clear H
         obtain ⟨Ao51, co51, eo51⟩ := Kd.R_slice HO_9.out
         subst eo51
         obtain ⟨Ao52, co52, eo52⟩ := Kd.R_slice HO_6.out
         subst eo52
         go_wp2_with (first | (go_at_call 48; (with_reducible refine (laws_eqItemS.calls kj11 _ _ t549 _ _ t541 true _ ?side1 ?side2 ?side3 ?side4 A49.out).mono ?_); (case side1 => exact (Z22 HO_9)); (case side2 => exact (Kd.R_reads' HO_9.out).2.1); (case side3 => exact (Z22 HO_6)); (case side4 => exact (Kd.R_reads' HO_6.out).2.1); rintro e w53 ⟨rfl, hb⟩; replace HO_6 := Z (Kd.R_below (Z14 HO_6) hb); replace HO_9 := Z (Kd.R_below (Z14 HO_9) hb); replace HO_549000 := Z (Kd.R_below (Z14 HO_549000) hb); replace HO556 := Z (Kd.R_below (Z14 HO556) hb); replace BK536 := Z (blk_below (g := gb536) (o := .cells #[.slice A0_0 l0_0.length c0_0] 42 (0, 0)) (Z10 BK536) hb); replace BK548 := Z (blk_below (g := gb548) (o := .cells #[.slice Ao23 t545.length co23] 34 (0, 0)) (Z10 BK548) hb); replace HB := Z (below_step Z68 hb); (try clear hb); (try clear hb2); (try clear hk); (try clear hi)))
         go_meet
         case rel => exact ⟨_, ((t552 != t544)), Z3, H', ⟨Z63⟩, ⟨(Z14 HO_6)⟩, ⟨(Z14 HO_9)⟩, ⟨(Z25 HO_549000)⟩, ⟨(Z10 BK536)⟩, ⟨(Z10 BK548)⟩, ⟨Z68⟩⟩
        ·replace c50 := Bool.eq_false_iff.mpr c50
         subst c50
         have H1 : (laws_FnExactItemsOf.j1 kj11 a1 t541 t544 t549 true l0_0) = some r := by rw [if_neg (show ¬ (false = true) by decide)] at H; exact H
         clear H
         have H := H1
         clear H1
         have H' := Aside0.mk H
         clear H
         obtain ⟨Ao54, co54, eo54⟩ := Kd.R_slice HO_9.out
         subst eo54
         obtain ⟨Ao55, co55, eo55⟩ := Kd.R_slice HO_6.out
         subst eo55
         go_wp2_with (first | (go_at_call 48; (with_reducible refine (laws_eqItemS.calls kj11 _ _ t549 _ _ t541 false _ ?side1 ?side2 ?side3 ?side4 A49.out).mono ?_); (case side1 => exact (Z22 HO_9)); (case side2 => exact (Kd.R_reads' HO_9.out).2.1); (case side3 => exact (Z22 HO_6)); (case side4 => exact (Kd.R_reads' HO_6.out).2.1); rintro e w56 ⟨rfl, hb⟩; replace HO_6 := Z (Kd.R_below (Z14 HO_6) hb); replace HO_9 := Z (Kd.R_below (Z14 HO_9) hb); replace HO_549000 := Z (Kd.R_below (Z14 HO_549000) hb); replace HO556 := Z (Kd.R_below (Z14 HO556) hb); replace BK536 := Z (blk_below (g := gb536) (o := .cells #[.slice A0_0 l0_0.length c0_0] 42 (0, 0)) (Z10 BK536) hb); replace BK548 := Z (blk_below (g := gb548) (o := .cells #[.slice Ao23 t545.length co23] 34 (0, 0)) (Z10 BK548) hb); replace HB := Z (below_step Z68 hb); (try clear hb); (try clear hb2); (try clear hk); (try clear hi)))
         go_meet
         case rel => exact ⟨_, (true), Z3, H', ⟨Z63⟩, ⟨(Z14 HO_6)⟩, ⟨(Z14 HO_9)⟩, ⟨(Z25 HO_549000)⟩, ⟨(Z10 BK536)⟩, ⟨(Z10 BK548)⟩, ⟨Z68⟩⟩
      case rest =>
       clear HC40
       try clear c1
       try clear c2
       try clear p2
       try clear c3
       try clear c4
       try clear c4b0
       try clear c5
       try clear c12
       try clear c24
       try clear c27
       try clear c28
       try clear c29
       try clear c31
       try clear c35
       try clear c38
       try clear c45
       try clear c48
       try clear c48b0
       try clear c50
       try clear c55
       try clear c56
       try clear hcz14_0
       try clear hcz16_0
       try clear hcz20_0
       try clear hcz25_0
       try clear hcz46_0
       try clear hcz6_0
       try clear hfz14_0
       try clear hfz16_0
       try clear hfz20_0
       try clear hfz25_0
       try clear hfz46_0
       try clear hfz6_0
       try clear p2
       obtain ⟨kq, x65_39, rfl, HA, HJ39, HO_6, HO_9, HO_549000, BK536, BK548, HB⟩ := hcut
       have hl549000_39 := (Kd.R_reads' HO_549000.out).1
       rw [hl549000_39] at HO_549000
       (try simp only [hl549000_39])
       (try simp only [hl549000_39] at BK536)
       (try simp only [hl549000_39] at BK548)
       (try simp only [hl549000_39] at HO_6)
       (try simp only [hl549000_39] at HO_9)
       cases kq with
       | zero => exact absurd HA.out (by simp [laws_FnExactItemsOf.j1])
       | succ kj39 =>
        have H := HA.out
        clear HA
        simp only [laws_FnExactItemsOf.j1] at H
        by_cases c57 : x65_39 = true
        ·subst c57
         have H1 : (some false) = some r := Z7
         clear H
         have H := H1
         clear H1
         obtain rfl := Option.some.inj H
         go_wp2
         go_ret
         exact ⟨Z13, Z68⟩
        ·replace c57 := Bool.eq_false_iff.mpr c57
         subst c57
         have H1 : ((laws_markItemS.f kj39 t549 1).bind fun bt561 => ((laws_heldItemS.f kj39 bt561.2 1).bind fun t563 => (if t563 < 0 then (some false) else (if t563 = bt561.1 then ((laws_toStore.f kj39 l0_0).bind fun t564 => ((impl_ItemsOf.f kj39 t564 a1).bind fun bt567 => ((laws_eqItemS.f kj39 bt567.1 t541).bind fun t571 => (if t571 = true then (laws_FnExactItemsOf.j2 kj39 bt561.2 bt561.1 (bt567.2 != t544)) else (laws_FnExactItemsOf.j2 kj39 bt561.2 bt561.1 true))))) else (some false))))) = some r := by rw [if_neg (show ¬ (false = true) by decide)] at H; exact H
         clear H
         have H := H1
         clear H1
         replace H := Option.bind_eq_some_iff.mp H
         obtain ⟨⟨t561, t562⟩, A580, H⟩ := H
         replace H : ((laws_heldItemS.f kj39 t562 1).bind fun t563 => (if t563 < 0 then (some false) else (if t563 = t561 then ((laws_toStore.f kj39 l0_0).bind fun t564 => ((impl_ItemsOf.f kj39 t564 a1).bind fun bt567 => ((laws_eqItemS.f kj39 bt567.1 t541).bind fun t571 => (if t571 = true then (laws_FnExactItemsOf.j2 kj39 t562 t561 (bt567.2 != t544)) else (laws_FnExactItemsOf.j2 kj39 t562 t561 true))))) else (some false)))) = some r := H
         have A58 := Aside0.mk A580
         clear A580
         replace H := Option.bind_eq_some_iff.mp H
         obtain ⟨t563, A590, H⟩ := H
         replace H : (if t563 < 0 then (some false) else (if t563 = t561 then ((laws_toStore.f kj39 l0_0).bind fun t564 => ((impl_ItemsOf.f kj39 t564 a1).bind fun bt567 => ((laws_eqItemS.f kj39 bt567.1 t541).bind fun t571 => (if t571 = true then (laws_FnExactItemsOf.j2 kj39 t562 t561 (bt567.2 != t544)) else (laws_FnExactItemsOf.j2 kj39 t562 t561 true))))) else (some false))) = some r := H
         have A59 := Aside0.mk A590
         clear A590
         by_cases c60 : t563 < 0
         ·rw [if_pos c60] at H
          have c60b0 : decide (t563 < 0) = true := decide_eq_true c60
          clear c60
          obtain rfl := Option.some.inj H
          obtain ⟨Ao61, co61, eo61⟩ := Kd.R_slice HO_9.out
          subst eo61
          go_wp2_with (first | ((with_reducible refine gate_callee (f := 49) rfl ?_); refine goesL_ (some 68) rfl rfl Try.func49 Z0 rfl #[.slice Ao61 t549.length co61, .int .i64 1] rfl Z11 ?_; (with_reducible refine (laws_markItemS.calls kj39 (fun k_ => some k_ = (.slice Ao61 t549.length co61 : Value).ownBlock) (.slice Ao61 t549.length co61) t549 1 t561 t562 w _ ?side1 ?side2 A58.out).mono ?_); (case side1 => exact Z68); (case side2 => exact Kd.R_tight rfl HO_9.out); rintro e w62 ⟨rfl, hy0, hb, hkp⟩; refine ⟨_, rfl, ?_⟩; replace HO_6 := Z (Kd.R_mono (ok' := fun k_ => some k_ ≠ (.slice Ao61 t549.length co61 : Value).ownBlock) (Kd.R_keptB (HO_6.out) hkp (fun k_ hk_ hs_ => (hk_) hs_)) (fun k_ hk_ => hk_.1)); replace HO_549000 := Z (Kd.R_mono (ok' := fun k_ => True) (Kd.R_keptB ((Kd.R_apart' HO_549000.out (Kd.R_typed HO_9.out) (by decide))) hkp (fun k_ hk_ hs_ => (hk_.2) hs_)) (fun k_ hk_ => trivial)); replace BK536 := Z (blk_kept (g := gb536) (o := .cells #[.slice A0_0 l0_0.length c0_0] 42 (0, 0)) (Z10 BK536) hkp (fun hs_ => (fun e_ => (Kd.R_ne HO_9.out BK536.out (by decide)) e_) hs_)); replace BK548 := Z (blk_kept (g := gb548) (o := .cells #[.slice Ao23 t559.length co23] 34 (0, 0)) (Z10 BK548) hkp (fun hs_ => (fun e_ => (Kd.R_ne HO_9.out BK548.out (by decide)) e_) hs_)); replace HO_9 := Z (Kd.R_reok rfl hy0 (fun k_ e_ => HO_9.out.1 k_ e_)); replace HB := Z (hb); (try clear hb); (try clear hkp); (try clear hy0)) | ((with_reducible refine gate_callee (f := 53) rfl ?_); refine goesL_ (some 71) rfl rfl Try.func53 Z0 rfl #[.slice Ao61 t562.length co61, .int .i64 1] rfl (Z64 HO_9) ?_; (with_reducible refine (laws_heldItemS.calls kj39 _ _ t562 1 t563 _ ?side1 ?side2 A59.out).mono ?_); (case side1 => exact (Z22 HO_9)); (case side2 => rw [show t562.length = t549.length from (Kd.R_reads' HO_9.out).1.symm]; exact (Kd.R_reads' HO_9.out).2.1); rintro e w63 ⟨rfl, hb⟩; refine ⟨_, rfl, ?_⟩; replace HO_6 := Z (Kd.R_below (Z14 HO_6) hb); replace HO_9 := Z (Kd.R_below (Z14 HO_9) hb); replace HO_549000 := Z (Kd.R_below (Z14 HO_549000) hb); replace BK536 := Z (blk_below (g := gb536) (o := .cells #[.slice A0_0 l0_0.length c0_0] 42 (0, 0)) (Z10 BK536) hb); replace BK548 := Z (blk_below (g := gb548) (o := .cells #[.slice Ao23 t559.length co23] 34 (0, 0)) (Z10 BK548) hb); replace HB := Z (below_step Z68 hb); (try clear hb); (try clear hb2); (try clear hk); (try clear hi)))
          go_ret
          exact ⟨Z13, Z68⟩
         ·rw [if_neg c60] at H
          have c60b0 : decide (t563 < 0) = false := decide_eq_false c60
          clear c60
          by_cases c64 : t563 = t561
          ·rw [if_pos c64] at H
           have c64b0 : (t563 == t561) = true := beq_iff_eq.mpr c64
           have c64b1 : (t563 != t561) = false := bne_eq_false_iff_eq.mpr c64
           clear c64
           replace H := Option.bind_eq_some_iff.mp H
           obtain ⟨t564, A650, H⟩ := H
           replace H : ((impl_ItemsOf.f kj39 t564 a1).bind fun bt567 => ((laws_eqItemS.f kj39 bt567.1 t541).bind fun t571 => (if t571 = true then (laws_FnExactItemsOf.j2 kj39 t562 t561 (bt567.2 != t544)) else (laws_FnExactItemsOf.j2 kj39 t562 t561 true)))) = some r := H
           have A65 := Aside0.mk A650
           clear A650
           replace H := Option.bind_eq_some_iff.mp H
           obtain ⟨⟨t567, t570⟩, A660, H⟩ := H
           replace H : ((laws_eqItemS.f kj39 t567 t541).bind fun t571 => (if t571 = true then (laws_FnExactItemsOf.j2 kj39 t562 t561 (t570 != t544)) else (laws_FnExactItemsOf.j2 kj39 t562 t561 true))) = some r := H
           have A66 := Aside0.mk A660
           clear A660
           have HC67 := Aside0.mk H
           clear H
           obtain ⟨Ao68, co68, eo68⟩ := Kd.R_slice HO_9.out
           subst eo68
           go_upto_region 25 with (first | ((with_reducible refine gate_callee (f := 49) rfl ?_); refine goesL_ (some 68) rfl rfl Try.func49 Z0 rfl #[.slice Ao68 t549.length co68, .int .i64 1] rfl Z11 ?_; (with_reducible refine (laws_markItemS.calls kj39 (fun k_ => some k_ = (.slice Ao68 t549.length co68 : Value).ownBlock) (.slice Ao68 t549.length co68) t549 1 t561 t562 w _ ?side1 ?side2 A58.out).mono ?_); (case side1 => exact Z68); (case side2 => exact Kd.R_tight rfl HO_9.out); rintro e w69 ⟨rfl, hy0, hb, hkp⟩; refine ⟨_, rfl, ?_⟩; replace HO_6 := Z (Kd.R_mono (ok' := fun k_ => some k_ ≠ (.slice Ao68 t549.length co68 : Value).ownBlock) (Kd.R_keptB (HO_6.out) hkp (fun k_ hk_ hs_ => (hk_) hs_)) (fun k_ hk_ => hk_.1)); replace HO_549000 := Z (Kd.R_mono (ok' := fun k_ => True) (Kd.R_keptB ((Kd.R_apart' HO_549000.out (Kd.R_typed HO_9.out) (by decide))) hkp (fun k_ hk_ hs_ => (hk_.2) hs_)) (fun k_ hk_ => trivial)); replace BK536 := Z (blk_kept (g := gb536) (o := .cells #[.slice A0_0 l0_0.length c0_0] 42 (0, 0)) (Z10 BK536) hkp (fun hs_ => (fun e_ => (Kd.R_ne HO_9.out BK536.out (by decide)) e_) hs_)); replace BK548 := Z (blk_kept (g := gb548) (o := .cells #[.slice Ao23 t559.length co23] 34 (0, 0)) (Z10 BK548) hkp (fun hs_ => (fun e_ => (Kd.R_ne HO_9.out BK548.out (by decide)) e_) hs_)); replace HO_9 := Z (Kd.R_reok rfl hy0 (fun k_ e_ => HO_9.out.1 k_ e_)); replace HB := Z (hb); (try clear hb); (try clear hkp); (try clear hy0)) | ((with_reducible refine gate_callee (f := 53) rfl ?_); refine goesL_ (some 71) rfl rfl Try.func53 Z0 rfl #[.slice Ao68 t562.length co68, .int .i64 1] rfl (Z64 HO_9) ?_; (with_reducible refine (laws_heldItemS.calls kj39 _ _ t562 1 t563 _ ?side1 ?side2 A59.out).mono ?_); (case side1 => exact (Z22 HO_9)); (case side2 => rw [show t562.length = t549.length from (Kd.R_reads' HO_9.out).1.symm]; exact (Kd.R_reads' HO_9.out).2.1); rintro e w70 ⟨rfl, hb⟩; refine ⟨_, rfl, ?_⟩; replace HO_6 := Z (Kd.R_below (Z14 HO_6) hb); replace HO_9 := Z (Kd.R_below (Z14 HO_9) hb); replace HO_549000 := Z (Kd.R_below (Z14 HO_549000) hb); replace BK536 := Z (blk_below (g := gb536) (o := .cells #[.slice A0_0 l0_0.length c0_0] 42 (0, 0)) (Z10 BK536) hb); replace BK548 := Z (blk_below (g := gb548) (o := .cells #[.slice Ao23 t559.length co23] 34 (0, 0)) (Z10 BK548) hb); replace HB := Z (below_step Z68 hb); (try clear hb); (try clear hb2); (try clear hk); (try clear hi); have hnb71 := NB536_548.out; have hnc71 := NB548_536.out; have hcz72_0 : w70.cell? ⟨gb536, 0, none⟩ = some (.slice A0_0 l0_0.length c0_0) := (blk_cell BK536.out 0).trans rfl; have hfz72_0 := blk_frozen BK536.out 0) | ((with_reducible refine gate_callee (f := 31) rfl ?_); refine goesL_ (some 79) rfl rfl Try.func31 Z0 rfl #[.agg #[.slice A0_0 l0_0.length c0_0]] rfl Z11 ?_; (with_reducible refine (laws_toStore.calls kj39 _ _ l0_0 t564 _ ?side1 ?side2 A65.out).mono ?_); (case side1 => exact (Z12 HR0_0)); (case side2 => exact HC0_0.out); rintro e w73 ⟨v565, rfl, ho0, hb⟩; refine ⟨_, rfl, ?_⟩; replace HO_6 := Z (Kd.R_below (Z14 HO_6) hb); replace HO_9 := Z (Kd.R_below (Z14 HO_9) hb); have HO566 := Z (Kd.R_lower (Kd.R_new' ho0 (Kd.R_lt (Z14 HO_549000))) (below_size Z68)); replace HO_549000 := Z (Kd.R_elder' (Z14 HO_549000) (Kd.R_base ho0) hb); replace BK536 := Z (blk_below (g := gb536) (o := .cells #[.slice A0_0 l0_0.length c0_0] 42 (0, 0)) (Z10 BK536) hb); replace BK548 := Z (blk_below (g := gb548) (o := .cells #[.slice Ao23 t559.length co23] 34 (0, 0)) (Z10 BK548) hb); replace HB := Z (below_step Z68 hb); (try clear hb); (try clear hb2); (try clear hk); (try clear hi); (try clear ho0); obtain ⟨Ao74, co74, eo74⟩ := Kd.R_slice HO566.out; subst eo74) | ((with_reducible refine gate_callee (f := 56) rfl ?_); refine goesL_ (some 81) rfl rfl Try.func56 Z0 rfl #[.agg #[.slice Ao74 t564.length co74], .int .i64 a1] rfl Z11 ?_; (with_reducible refine (impl_ItemsOf.calls kj39 _ _ t564 a1 t567 t570 _ ?side1 ?side2 A66.out).mono ?_); (case side1 => exact (Z22 HO566)); (case side2 => exact (Kd.R_reads' HO566.out).2.1); rintro e w75 ⟨v568, rfl, ho0, hb⟩; refine ⟨_, rfl, ?_⟩; replace HO_549000 := Z (Kd.R_below (Z14 HO_549000) hb); replace HO566 := Z (Kd.R_below (Z14 HO566) hb); have HO569 := Z (Kd.R_lower (Kd.R_new' (Kd.R_new' ho0 (Kd.R_lt (Z14 HO_6))) (Kd.R_lt (Z14 HO_9))) (below_size Z68)); replace HO_6 := Z (Kd.R_elder' (Z14 HO_6) (Kd.R_base ho0) hb); replace HO_9 := Z (Kd.R_elder' (Z14 HO_9) (Kd.R_base ho0) hb); replace BK536 := Z (blk_below (g := gb536) (o := .cells #[.slice A0_0 l0_0.length c0_0] 42 (0, 0)) (Z10 BK536) hb); replace BK548 := Z (blk_below (g := gb548) (o := .cells #[.slice Ao23 t559.length co23] 34 (0, 0)) (Z10 BK548) hb); replace HB := Z (below_step Z68 hb); (try clear hb); (try clear hb2); (try clear hk); (try clear hi); (try clear ho0)))
           (try simp only [Act.put, List.setIfInBounds_toArray, List.set_cons_zero, List.set_cons_succ])
           go_cut [92] (fun v92 wc => ∃ (kq : Nat) (x92_66 : Bool), v92 = .bool x92_66 ∧ Aside0 (laws_FnExactItemsOf.j2 kq t562 t561 x92_66 = some r) ∧ Aside0 (kq ≤ kj39) ∧ Aside0 (Kd.R k51 51 wc w.heap.size (fun _ => True) (.slice Ao68 t549.length co68) t562) ∧ Aside0 (Kd.R (Kd.int .u32) 47 wc w.heap.size (fun _ => True) (.slice Ao23 t559.length co23) t559) ∧ Aside0 (wc.heap[gb536]? = some (.cells #[(.slice A0_0 l0_0.length c0_0)] 42 (0, 0))) ∧ Aside0 (wc.heap[gb548]? = some (.cells #[(.slice Ao23 t559.length co23)] 34 (0, 0))) ∧ Aside0 (Below w.heap.size w wc))
           case first =>
            have H := HC67.out
            clear HC67
            replace H := Option.bind_eq_some_iff.mp H
            obtain ⟨t571, A760, H⟩ := H
            replace H : (if t571 = true then (laws_FnExactItemsOf.j2 kj39 t562 t561 (t570 != t544)) else (laws_FnExactItemsOf.j2 kj39 t562 t561 true)) = some r := H
            have A76 := Aside0.mk A760
            clear A760
            by_cases c77 : t571 = true
            ·subst c77
             have H1 : (laws_FnExactItemsOf.j2 kj39 t562 t561 (t570 != t544)) = some r := Z7
             clear H
             have H := H1
             clear H1
             have H' := Aside0.mk H
             clear H
             obtain ⟨Ao78, co78, eo78⟩ := Kd.R_slice HO569.out
             subst eo78
             obtain ⟨Ao79, co79, eo79⟩ := Kd.R_slice HO_6.out
             subst eo79
             go_wp2_with (first | ((with_reducible refine gate_callee (f := 48) rfl ?_); refine goesL_ (some 86) rfl rfl Try.func48 Z0 rfl #[.slice Ao78 t567.length co78, .slice Ao79 t541.length co79] rfl Z11 ?_; (with_reducible refine (laws_eqItemS.calls kj39 _ _ t567 _ _ t541 true _ ?side1 ?side2 ?side3 ?side4 A76.out).mono ?_); (case side1 => exact (Z22 HO569)); (case side2 => exact (Kd.R_reads' HO569.out).2.1); (case side3 => exact (Z22 HO_6)); (case side4 => exact (Kd.R_reads' HO_6.out).2.1); rintro e w80 ⟨rfl, hb⟩; refine ⟨_, rfl, ?_⟩; replace HO_6 := Z (Kd.R_below (Z14 HO_6) hb); replace HO_9 := Z (Kd.R_below (Z14 HO_9) hb); replace HO_549000 := Z (Kd.R_below (Z14 HO_549000) hb); replace HO566 := Z (Kd.R_below (Z14 HO566) hb); replace HO569 := Z (Kd.R_below (Z14 HO569) hb); replace BK536 := Z (blk_below (g := gb536) (o := .cells #[.slice A0_0 l0_0.length c0_0] 42 (0, 0)) (Z10 BK536) hb); replace BK548 := Z (blk_below (g := gb548) (o := .cells #[.slice Ao23 t559.length co23] 34 (0, 0)) (Z10 BK548) hb); replace HB := Z (below_step Z68 hb); (try clear hb); (try clear hb2); (try clear hk); (try clear hi)))
             go_meet
             case rel => exact ⟨_, ((t570 != t544)), Z3, H', ⟨Z65⟩, ⟨(Z66 HO_9)⟩, ⟨(Z66 HO_549000)⟩, ⟨(Z67 BK536)⟩, ⟨(Z67 BK548)⟩, ⟨Z68⟩⟩
            ·replace c77 := Bool.eq_false_iff.mpr c77
             subst c77
             have H1 : (laws_FnExactItemsOf.j2 kj39 t562 t561 true) = some r := by rw [if_neg (show ¬ (false = true) by decide)] at H; exact H
             clear H
             have H := H1
             clear H1
             have H' := Aside0.mk H
             clear H
             obtain ⟨Ao81, co81, eo81⟩ := Kd.R_slice HO569.out
             subst eo81
             obtain ⟨Ao82, co82, eo82⟩ := Kd.R_slice HO_6.out
             subst eo82
             go_wp2_with (first | ((with_reducible refine gate_callee (f := 48) rfl ?_); refine goesL_ (some 86) rfl rfl Try.func48 Z0 rfl #[.slice Ao81 t567.length co81, .slice Ao82 t541.length co82] rfl Z11 ?_; (with_reducible refine (laws_eqItemS.calls kj39 _ _ t567 _ _ t541 false _ ?side1 ?side2 ?side3 ?side4 A76.out).mono ?_); (case side1 => exact (Z22 HO569)); (case side2 => exact (Kd.R_reads' HO569.out).2.1); (case side3 => exact (Z22 HO_6)); (case side4 => exact (Kd.R_reads' HO_6.out).2.1); rintro e w83 ⟨rfl, hb⟩; refine ⟨_, rfl, ?_⟩; replace HO_6 := Z (Kd.R_below (Z14 HO_6) hb); replace HO_9 := Z (Kd.R_below (Z14 HO_9) hb); replace HO_549000 := Z (Kd.R_below (Z14 HO_549000) hb); replace HO566 := Z (Kd.R_below (Z14 HO566) hb); replace HO569 := Z (Kd.R_below (Z14 HO569) hb); replace BK536 := Z (blk_below (g := gb536) (o := .cells #[.slice A0_0 l0_0.length c0_0] 42 (0, 0)) (Z10 BK536) hb); replace BK548 := Z (blk_below (g := gb548) (o := .cells #[.slice Ao23 t559.length co23] 34 (0, 0)) (Z10 BK548) hb); replace HB := Z (below_step Z68 hb); (try clear hb); (try clear hb2); (try clear hk); (try clear hi)))
             go_meet
             case rel => exact ⟨_, (true), Z3, H', ⟨Z65⟩, ⟨(Z66 HO_9)⟩, ⟨(Z66 HO_549000)⟩, ⟨(Z67 BK536)⟩, ⟨(Z67 BK548)⟩, ⟨Z68⟩⟩
           case rest =>
            clear HC67
            try clear c1
            try clear c2
            try clear p2
            try clear c3
            try clear c4
            try clear c4b0
            try clear c5
            try clear c6
            try clear c7
            try clear c12
            try clear c24
            try clear c27
            try clear c28
            try clear c29
            try clear c31
            try clear c35
            try clear c38
            try clear c45
            try clear c48
            try clear c48b0
            try clear c49
            try clear c50
            try clear c53
            try clear c55
            try clear c56
            try clear c57
            try clear c60
            try clear c60b0
            try clear c64
            try clear c64b0
            try clear c64b1
            try clear c71
            try clear c77
            try clear hcz14_0
            try clear hcz16_0
            try clear hcz20_0
            try clear hcz25_0
            try clear hcz46_0
            try clear hcz6_0
            try clear hcz72_0
            try clear hfz14_0
            try clear hfz16_0
            try clear hfz20_0
            try clear hfz25_0
            try clear hfz46_0
            try clear hfz6_0
            try clear hfz72_0
            try clear p2
            obtain ⟨kq, x92_66, rfl, HA, HJ66, HO_9, HO_549000, BK536, BK548, HB⟩ := hcut
            have hl9_66 := (Kd.R_reads' HO_9.out).1
            rw [hl9_66] at HO_9
            (try simp only [hl9_66])
            (try simp only [hl9_66] at BK536)
            (try simp only [hl9_66] at BK548)
            (try simp only [hl9_66] at HO_549000)
            cases kq with
            | zero => exact absurd HA.out (by simp [laws_FnExactItemsOf.j2])
            | succ kj66 =>
             have H := HA.out
             clear HA
             simp only [laws_FnExactItemsOf.j2] at H
             by_cases c84 : x92_66 = true
             ·subst c84
              have H1 : (some false) = some r := Z7
              clear H
              have H := H1
              clear H1
              obtain rfl := Option.some.inj H
              go_wp2
              go_ret
              exact ⟨Z13, Z68⟩
             ·replace c84 := Bool.eq_false_iff.mpr c84
              subst c84
              have H1 : ((laws_heldItemS.f kj66 t562 1).bind fun t572 => (if t572 < 0 then (some false) else (if t572 = t561 then (some true) else (some false)))) = some r := by rw [if_neg (show ¬ (false = true) by decide)] at H; exact H
              clear H
              have H := H1
              clear H1
              replace H := Option.bind_eq_some_iff.mp H
              obtain ⟨t572, A850, H⟩ := H
              replace H : (if t572 < 0 then (some false) else (if t572 = t561 then (some true) else (some false))) = some r := H
              have A85 := Aside0.mk A850
              clear A850
              by_cases c86 : t572 < 0
              ·rw [if_pos c86] at H
               have c86b0 : decide (t572 < 0) = true := decide_eq_true c86
               clear c86
               obtain rfl := Option.some.inj H
               go_wp2_with (first | ((with_reducible refine gate_callee (f := 53) rfl ?_); refine goesL_ (some 95) rfl rfl Try.func53 Z0 rfl #[.slice Ao68 t562.length co68, .int .i64 1] rfl Z11 ?_; (with_reducible refine (laws_heldItemS.calls kj66 _ _ t562 1 t572 _ ?side1 ?side2 A85.out).mono ?_); (case side1 => exact (Z22 HO_9)); (case side2 => exact (Kd.R_reads' HO_9.out).2.1); rintro e w87 ⟨rfl, hb⟩; refine ⟨_, rfl, ?_⟩; replace HO_9 := Z (Kd.R_below (Z14 HO_9) hb); replace HO_549000 := Z (Kd.R_below (Z14 HO_549000) hb); replace BK536 := Z (blk_below (g := gb536) (o := .cells #[.slice A0_0 l0_0.length c0_0] 42 (0, 0)) (Z10 BK536) hb); replace BK548 := Z (blk_below (g := gb548) (o := .cells #[.slice Ao23 t559.length co23] 34 (0, 0)) (Z10 BK548) hb); replace HB := Z (below_step Z68 hb); (try clear hb); (try clear hb2); (try clear hk); (try clear hi)))
               go_ret
               exact ⟨Z13, Z68⟩
              ·rw [if_neg c86] at H
               have c86b0 : decide (t572 < 0) = false := decide_eq_false c86
               clear c86
               by_cases c88 : t572 = t561
               ·rw [if_pos c88] at H
                have c88b0 : (t572 == t561) = true := beq_iff_eq.mpr c88
                have c88b1 : (t572 != t561) = false := bne_eq_false_iff_eq.mpr c88
                clear c88
                obtain rfl := Option.some.inj H
                go_wp2_with (first | ((with_reducible refine gate_callee (f := 53) rfl ?_); refine goesL_ (some 95) rfl rfl Try.func53 Z0 rfl #[.slice Ao68 t562.length co68, .int .i64 1] rfl Z11 ?_; (with_reducible refine (laws_heldItemS.calls kj66 _ _ t562 1 t572 _ ?side1 ?side2 A85.out).mono ?_); (case side1 => exact (Z22 HO_9)); (case side2 => exact (Kd.R_reads' HO_9.out).2.1); rintro e w89 ⟨rfl, hb⟩; refine ⟨_, rfl, ?_⟩; replace HO_9 := Z (Kd.R_below (Z14 HO_9) hb); replace HO_549000 := Z (Kd.R_below (Z14 HO_549000) hb); replace BK536 := Z (blk_below (g := gb536) (o := .cells #[.slice A0_0 l0_0.length c0_0] 42 (0, 0)) (Z10 BK536) hb); replace BK548 := Z (blk_below (g := gb548) (o := .cells #[.slice Ao23 t559.length co23] 34 (0, 0)) (Z10 BK548) hb); replace HB := Z (below_step Z68 hb); (try clear hb); (try clear hb2); (try clear hk); (try clear hi)))
                go_ret
                exact ⟨Z13, Z68⟩
               ·rw [if_neg c88] at H
                have c88b0 : (t572 == t561) = false := beq_eq_false_iff_ne.mpr c88
                have c88b1 : (t572 != t561) = true := bne_iff_ne.mpr c88
                obtain rfl := Option.some.inj H
                go_wp2_with (first | ((with_reducible refine gate_callee (f := 53) rfl ?_); refine goesL_ (some 95) rfl rfl Try.func53 Z0 rfl #[.slice Ao68 t562.length co68, .int .i64 1] rfl Z11 ?_; (with_reducible refine (laws_heldItemS.calls kj66 _ _ t562 1 t572 _ ?side1 ?side2 A85.out).mono ?_); (case side1 => exact (Z22 HO_9)); (case side2 => exact (Kd.R_reads' HO_9.out).2.1); rintro e w90 ⟨rfl, hb⟩; refine ⟨_, rfl, ?_⟩; replace HO_9 := Z (Kd.R_below (Z14 HO_9) hb); replace HO_549000 := Z (Kd.R_below (Z14 HO_549000) hb); replace BK536 := Z (blk_below (g := gb536) (o := .cells #[.slice A0_0 l0_0.length c0_0] 42 (0, 0)) (Z10 BK536) hb); replace BK548 := Z (blk_below (g := gb548) (o := .cells #[.slice Ao23 t559.length co23] 34 (0, 0)) (Z10 BK548) hb); replace HB := Z (below_step Z68 hb); (try clear hb); (try clear hb2); (try clear hk); (try clear hi)))
                go_ret
                exact ⟨Z13, Z68⟩
          ·rw [if_neg c64] at H
           have c64b0 : (t563 == t561) = false := beq_eq_false_iff_ne.mpr c64
           have c64b1 : (t563 != t561) = true := bne_iff_ne.mpr c64
           obtain rfl := Option.some.inj H
           obtain ⟨Ao91, co91, eo91⟩ := Kd.R_slice HO_9.out
           subst eo91
           go_wp2_with (first | ((with_reducible refine gate_callee (f := 49) rfl ?_); refine goesL_ (some 68) rfl rfl Try.func49 Z0 rfl #[.slice Ao91 t549.length co91, .int .i64 1] rfl Z11 ?_; (with_reducible refine (laws_markItemS.calls kj39 (fun k_ => some k_ = (.slice Ao91 t549.length co91 : Value).ownBlock) (.slice Ao91 t549.length co91) t549 1 t561 t562 w _ ?side1 ?side2 A58.out).mono ?_); (case side1 => exact Z68); (case side2 => exact Kd.R_tight rfl HO_9.out); rintro e w92 ⟨rfl, hy0, hb, hkp⟩; refine ⟨_, rfl, ?_⟩; replace HO_6 := Z (Kd.R_mono (ok' := fun k_ => some k_ ≠ (.slice Ao91 t549.length co91 : Value).ownBlock) (Kd.R_keptB (HO_6.out) hkp (fun k_ hk_ hs_ => (hk_) hs_)) (fun k_ hk_ => hk_.1)); replace HO_549000 := Z (Kd.R_mono (ok' := fun k_ => True) (Kd.R_keptB ((Kd.R_apart' HO_549000.out (Kd.R_typed HO_9.out) (by decide))) hkp (fun k_ hk_ hs_ => (hk_.2) hs_)) (fun k_ hk_ => trivial)); replace BK536 := Z (blk_kept (g := gb536) (o := .cells #[.slice A0_0 l0_0.length c0_0] 42 (0, 0)) (Z10 BK536) hkp (fun hs_ => (fun e_ => (Kd.R_ne HO_9.out BK536.out (by decide)) e_) hs_)); replace BK548 := Z (blk_kept (g := gb548) (o := .cells #[.slice Ao23 t559.length co23] 34 (0, 0)) (Z10 BK548) hkp (fun hs_ => (fun e_ => (Kd.R_ne HO_9.out BK548.out (by decide)) e_) hs_)); replace HO_9 := Z (Kd.R_reok rfl hy0 (fun k_ e_ => HO_9.out.1 k_ e_)); replace HB := Z (hb); (try clear hb); (try clear hkp); (try clear hy0)) | ((with_reducible refine gate_callee (f := 53) rfl ?_); refine goesL_ (some 71) rfl rfl Try.func53 Z0 rfl #[.slice Ao91 t562.length co91, .int .i64 1] rfl (Z64 HO_9) ?_; (with_reducible refine (laws_heldItemS.calls kj39 _ _ t562 1 t563 _ ?side1 ?side2 A59.out).mono ?_); (case side1 => exact (Z22 HO_9)); (case side2 => rw [show t562.length = t549.length from (Kd.R_reads' HO_9.out).1.symm]; exact (Kd.R_reads' HO_9.out).2.1); rintro e w93 ⟨rfl, hb⟩; refine ⟨_, rfl, ?_⟩; replace HO_6 := Z (Kd.R_below (Z14 HO_6) hb); replace HO_9 := Z (Kd.R_below (Z14 HO_9) hb); replace HO_549000 := Z (Kd.R_below (Z14 HO_549000) hb); replace BK536 := Z (blk_below (g := gb536) (o := .cells #[.slice A0_0 l0_0.length c0_0] 42 (0, 0)) (Z10 BK536) hb); replace BK548 := Z (blk_below (g := gb548) (o := .cells #[.slice Ao23 t559.length co23] 34 (0, 0)) (Z10 BK548) hb); replace HB := Z (below_step Z68 hb); (try clear hb); (try clear hb2); (try clear hk); (try clear hi)))
           go_ret
           exact ⟨Z13, Z68⟩
     ·replace c38 := Bool.eq_false_iff.mpr c38
      subst c38
      have H1 : (some false) = some r := by rw [if_neg (show ¬ (false = true) by decide)] at H; exact H
      clear H
      have H := H1
      clear H1
      obtain rfl := Option.some.inj H
      try go_wp2
      have n0_ := Z (Kd.R_drew HO_6.out)
      have n1_ := Z (Kd.R_drew HO_9.out)
      have n2_ := Z (Kd.R_drew HO_549000.out)
      have n3_ := Z (blk_drew BK536.out)
      have n4_ := Z (blk_drew BK548.out)
      have n5_ := Z (below_drew1 HB.out)
      clear HO_6
      clear HO_9
      clear HO_549000
      clear BK536
      clear BK548
      clear HB
      have HO_6 := n0_
      have HO_9 := n1_
      have HO_549000 := n2_
      have BK536 := n3_
      have BK548 := n4_
      have HB := n5_
      clear n0_ n1_ n2_ n3_ n4_ n5_
      refine start_ (n := 5) (S := fun w' => w'.cell? ⟨gb548, 0, none⟩ = some (.slice Ao23 t545.length co23) ∧ w'.cell? ⟨gb536, 0, none⟩ = some (.slice A0_0 l0_0.length c0_0)) (ds := []) #[false, false, false, false, false] Z0 rfl rfl ⟨(blk_cell BK548.out 0).trans rfl, (blk_cell BK536.out 0).trans rfl⟩ (fun hHeld => ?_)
      generalize wc.drew = w94 at HO_6 HO_9 HO_549000 BK536 BK548 HB hHeld ⊢
      refine take_ (i := 0) (N := some 45) (v := ?_) (a' := ?_) #[true, false, false, false, false] rfl rfl Z0 (fun _ _ _ h => h) (Or.inl ⟨by rfl, ?_⟩) hHeld ?_ ?_
      rotate_left
      ·rintro w' ⟨s0, s1⟩
       go_simp
       with_reducible rfl
      rotate_left
      ·simp only [Act.put, List.setIfInBounds_toArray, List.set_cons_zero, List.set_cons_succ, i64_w, i32_w]
       rfl
      refine take_ (i := 1) (N := some 46) (v := ?_) (a' := ?_) #[true, true, false, false, false] rfl rfl Z0 (fun _ _ _ h => h) (Or.inl ⟨by rfl, ?_⟩) hHeld ?_ ?_
      rotate_left
      ·rintro w' ⟨s0, s1⟩
       go_simp
       with_reducible rfl
      rotate_left
      ·simp only [Act.put, List.setIfInBounds_toArray, List.set_cons_zero, List.set_cons_succ, i64_w, i32_w]
       rfl
      refine one_ (i := 2) (N := some 47) #[true, true, true, false, false] rfl rfl Z0 (by decide) (fun K hK => ?_)
      refine goes_ Try.func31 Z0 rfl #[.agg #[.slice A0_0 l0_0.length c0_0]] (by rfl) rfl rfl Z11 ?_
      with_reducible refine (laws_toStore.calls kj11 _ _ l0_0 t554 _ ?side1 ?side2 A36.out).mono ?_
      (case side1 => exact (Z12 HR0_0))
      (case side2 => exact HC0_0.out)
      rintro e w95 ⟨v555, rfl, ho0, hb⟩
      refine ⟨_, rfl, ?_⟩
      have n0_ := Z (Kd.R_below (Z14 HO_6) hb)
      have n1_ := Z (Kd.R_below (Z14 HO_9) hb)
      have n2_ := Z (Kd.R_elder' (Z14 HO_549000) (Kd.R_base ho0) hb)
      have n3_ := Z (Kd.R_lower (Kd.R_new' ho0 (Kd.R_lt (Z14 HO_549000))) (below_size Z68))
      have n4_ := Z (blk_below (g := gb536) (o := .cells #[.slice A0_0 l0_0.length c0_0] 42 (0, 0)) (Z10 BK536) hb)
      have n5_ := Z (blk_below (g := gb548) (o := .cells #[.slice Ao23 t545.length co23] 34 (0, 0)) (Z10 BK548) hb)
      have n6_ := Z (below_step Z68 hb)
      clear HO_6
      clear HO_9
      clear HO_549000
      clear BK536
      clear BK548
      clear HB
      have HO_6 := n0_
      have HO_9 := n1_
      have HO_549000 := n2_
      have HO556 := n3_
      have BK536 := n4_
      have BK548 := n5_
      have HB := n6_
      clear n0_ n1_ n2_ n3_ n4_ n5_ n6_
      (try clear hb)
      (try clear hb2)
      (try clear hk)
      (try clear hi)
      (try clear ho0)
      obtain ⟨Ao96, co96, eo96⟩ := Kd.R_slice HO556.out
      (first | subst eo96 | (injection eo96 with f1_ f2_ f3_; have f4_ := f1_.symm; have f5_ := f3_.symm; clear f1_ f2_ f3_; subst f4_; subst f5_))
      refine hK.out _ _ ⟨(blk_cell BK548.out 0).trans rfl, (blk_cell BK536.out 0).trans rfl⟩ (fun hHeld => ?_)
      clear hK K
      refine norm_ (a' := ?_) ?_ ?_
      rotate_left
      ·show Act.put _ (some 47) _ = _
       simp only [Act.put, List.setIfInBounds_toArray, List.set_cons_zero, List.set_cons_succ, i64_w, i32_w]
       rfl
      refine one_ (i := 3) (N := some 48) #[true, true, true, true, false] rfl rfl Z0 (by decide) (fun K hK => ?_)
      refine goes_ Try.func24 Z0 rfl #[.agg #[.slice Ao23 t545.length co23], .agg #[.slice Ao96 t554.length co96]] (by rfl) rfl rfl Z11 ?_
      with_reducible refine (laws_eqStore.calls kj11 _ _ t545 _ _ t554 false _ ?side1 ?side2 ?side3 ?side4 A37.out).mono ?_
      (case side1 => exact (Z22 HO_549000))
      (case side2 => exact (Kd.R_reads' HO_549000.out).2.1)
      (case side3 => exact (Z22 HO556))
      (case side4 => exact (Kd.R_reads' HO556.out).2.1)
      rintro e w97 ⟨rfl, hb⟩
      refine ⟨_, rfl, ?_⟩
      have n0_ := Z (Kd.R_below (Z14 HO_6) hb)
      have n1_ := Z (Kd.R_below (Z14 HO_9) hb)
      have n2_ := Z (Kd.R_below (Z14 HO_549000) hb)
      have n3_ := Z (Kd.R_below (Z14 HO556) hb)
      have n4_ := Z (blk_below (g := gb536) (o := .cells #[.slice A0_0 l0_0.length c0_0] 42 (0, 0)) (Z10 BK536) hb)
      have n5_ := Z (blk_below (g := gb548) (o := .cells #[.slice Ao23 t545.length co23] 34 (0, 0)) (Z10 BK548) hb)
      have n6_ := Z (below_step Z68 hb)
      clear HO_6
      clear HO_9
      clear HO_549000
      clear HO556
      clear BK536
      clear BK548
      clear HB
      have HO_6 := n0_
      have HO_9 := n1_
      have HO_549000 := n2_
      have HO556 := n3_
      have BK536 := n4_
      have BK548 := n5_
      have HB := n6_
      clear n0_ n1_ n2_ n3_ n4_ n5_ n6_
      (try clear hb)
      (try clear hb2)
      (try clear hk)
      (try clear hi)
      refine hK.out _ _ ⟨(blk_cell BK548.out 0).trans rfl, (blk_cell BK536.out 0).trans rfl⟩ (fun hHeld => ?_)
      clear hK K
      refine norm_ (a' := ?_) ?_ ?_
      rotate_left
      ·show Act.put _ (some 48) _ = _
       simp only [Act.put, List.setIfInBounds_toArray, List.set_cons_zero, List.set_cons_succ, i64_w, i32_w]
       rfl
      refine pure_ (i := 4) (N := some 49) (v := ?_) (a' := ?_) #[true, true, true, true, true] rfl rfl Z0 (fun _ _ _ h => h) (Or.inl ⟨by rfl, ?_⟩) ?_ ?_
      rotate_left
      ·intro w'
       go_simp
       with_reducible rfl
      rotate_left
      ·simp only [Act.put, List.setIfInBounds_toArray, List.set_cons_zero, List.set_cons_succ, i64_w, i32_w]
       rfl
      refine done_ Z0 ?_
      try go_wp2
      go_ret
      exact ⟨Z13, Z68⟩

/-- THE ONE PURE STATEMENT of laws_FnExactItemsOf. -/
def laws_FnExactItemsOf.Pure : Prop := ∀ (l0_0 : List Int) (a1 : Int), l0_0.length ≤ maxLen → l0_0.length * 4 ≤ 140737488351232 → (∀ x ∈ l0_0, (Lit.int .u32 x).wf = true) → (Lit.int .i64 a1).wf = true → ∃ k, laws_FnExactItemsOf.f k l0_0 a1 = some true

end Go.Proofs.Ytkkiibjnpkjijaa.QFnExactItemsOf
