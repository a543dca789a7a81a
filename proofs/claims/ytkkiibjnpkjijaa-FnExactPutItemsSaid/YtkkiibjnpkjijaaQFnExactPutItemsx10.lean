/-
Plain functions for the Go functions that a law reaches, each with a proof that the translation's call comes to just that; no conditions beyond those written in each.
-/
import Derived.Test.YtkkiibjnpkjijaaSFnExactPutItems
import Derived.Test.YtkkiibjnpkjijaaQFnExactPutItemsx2
import Derived.Test.YtkkiibjnpkjijaaQFnExactPutItemsx3
import Derived.Test.YtkkiibjnpkjijaaQFnExactPutItemsx5
import Derived.Test.YtkkiibjnpkjijaaQFnExactPutItemsx6
import Derived.Test.YtkkiibjnpkjijaaQFnExactPutItemsx8
import Derived.Test.YtkkiibjnpkjijaaQFnExactPutItemsx9
namespace Go.Proofs.Ytkkiibjnpkjijaa.QFnExactPutItems
open Go.RowKit Go.Proofs.YtkkiibjnpkjijaaW.PrintWords Go.Proofs.YtkkiibjnpkjijaaW.PrintLast Go.Proofs.YtkkiibjnpkjijaaW.PrintMore
attribute [local go_sem] max2_int min2_int max_two min_two max_three min_three max_four min_four   -- for this text's walks alone
set_option linter.unusedVariables false
set_option linter.unusedSimpArgs false

/-! ### laws_FnExactPutItems: function 9 -/
mutual
def laws_FnExactPutItems.j0 : Nat → Int → List (S49) → Bool → List (S51) → Bool → Bool → List Int → List Int → List Int → List Int → Option (Bool)
 | 0, _, _, _, _, _, _, _, _, _, _ => none
 | k + 1, x1, x2, x9, x11, x13, x57, x399000, x412000, x416000, x424000 => if x57 = true then (some false) else ((laws_toStore.f k x399000).bind fun t425 => ((laws_eqStore.f k x416000 t425).bind fun t428 => (if t428 = true then ((laws_toItemS.f k x2).bind fun t429 => ((laws_eqItemS.f k x11 t429).bind fun t432 => (if t432 = true then ((laws_markStore.f k x416000 1).bind fun bt433 => ((laws_markItemS.f k x11 bt433.1).bind fun bt435 => (if bt435.1 < 0 then (laws_FnExactPutItems.j1 k x1 x2 x9 true x399000 x412000 x424000) else ((laws_eqStore.f k x424000 x412000).bind fun t437 => (if t437 = true then (laws_FnExactPutItems.j1 k x1 x2 x9 (x13 != x9) x399000 x412000 x424000) else (laws_FnExactPutItems.j1 k x1 x2 x9 true x399000 x412000 x424000)))))) else (some false)))) else (some false))))
def laws_FnExactPutItems.j1 : Nat → Int → List (S49) → Bool → Bool → List Int → List Int → List Int → Option (Bool)
 | 0, _, _, _, _, _, _, _ => none
 | k + 1, x1, x2, x9, x86, x399000, x412000, x424000 => if x86 = true then (some false) else ((laws_markStore.f k x424000 1).bind fun bt438 => ((laws_heldStore.f k bt438.2 1).bind fun t440 => (if t440 < 0 then (some false) else (if t440 = bt438.1 then ((laws_toStore.f k x399000).bind fun t441 => ((laws_toItemS.f k x2).bind fun t444 => ((impl_PutItems.f k t441 x1 t444).bind fun bt447 => ((laws_eqStore.f k bt447.1 x412000).bind fun t452 => (if t452 = true then (laws_FnExactPutItems.j2 k bt438.1 (bt447.2 != x9) bt438.2) else (laws_FnExactPutItems.j2 k bt438.1 true bt438.2)))))) else (some false)))))
def laws_FnExactPutItems.j2 : Nat → Int → Bool → List Int → Option (Bool)
 | 0, _, _, _ => none
 | k + 1, x15, x115, x424000 => if x115 = true then (some false) else ((laws_heldStore.f k x424000 1).bind fun t453 => (if t453 < 0 then (some false) else (if t453 = x15 then (some true) else (some false))))
end
def laws_FnExactPutItems.f (k : Nat) (l0_0 : List Int) (a1 : Int) (l2 : List (S49)) : Option (Bool) := (laws_szStore.f l0_0 1048576).bind fun t399 => (if t399 < 0 then (some true) else ((laws_szItemS.f k l2 t399).bind fun t400 => (if t400 < 0 then (some true) else ((laws_toStore.f k l0_0).bind fun t401 => ((laws_toItemS.f k l2).bind fun t404 => ((spec_PutItems.f k t401 a1 t404).bind fun bt407 => ((laws_toStore.f k l0_0).bind fun t412 => ((laws_toItemS.f k l2).bind fun t416 => ((impl_PutItems.f k t412 a1 t416).bind fun bt419 => ((laws_eqStore.f k bt419.1 bt407.1).bind fun t424 => (if t424 = true then (laws_FnExactPutItems.j0 k a1 l2 bt407.2 t416 bt419.2 (bt419.2 != bt407.2) l0_0 bt407.1 t412 bt419.1) else (laws_FnExactPutItems.j0 k a1 l2 bt407.2 t416 bt419.2 true l0_0 bt407.1 t412 bt419.1))))))))))))
theorem laws_FnExactPutItems.mono_l : ∀ k, (∀ y0 y1 y2 y3 y4 y5 y6 y7 y8 y9, LeO (laws_FnExactPutItems.j0 k y0 y1 y2 y3 y4 y5 y6 y7 y8 y9) (laws_FnExactPutItems.j0 (k + 1) y0 y1 y2 y3 y4 y5 y6 y7 y8 y9)) ∧ (∀ y0 y1 y2 y3 y4 y5 y6, LeO (laws_FnExactPutItems.j1 k y0 y1 y2 y3 y4 y5 y6) (laws_FnExactPutItems.j1 (k + 1) y0 y1 y2 y3 y4 y5 y6)) ∧ (∀ y0 y1 y2, LeO (laws_FnExactPutItems.j2 k y0 y1 y2) (laws_FnExactPutItems.j2 (k + 1) y0 y1 y2))
 | 0 => ⟨fun _ _ _ _ _ _ _ _ _ _ r h => by simp [laws_FnExactPutItems.j0] at h, fun _ _ _ _ _ _ _ r h => by simp [laws_FnExactPutItems.j1] at h, fun _ _ _ r h => by simp [laws_FnExactPutItems.j2] at h⟩
 | k + 1 => by
  obtain ⟨ih0, ih1, ih2⟩ := laws_FnExactPutItems.mono_l k
  refine ⟨?_, ?_, ?_⟩
  ·intro y0 y1 y2 y3 y4 y5 y6 y7 y8 y9
   unfold laws_FnExactPutItems.j0
   repeat' first
   | (with_reducible exact ih0 _ _ _ _ _ _ _ _ _ _)
   | (with_reducible exact ih1 _ _ _ _ _ _ _)
   | (with_reducible exact ih2 _ _ _)
   | (with_reducible exact impl_PutItems.mono _ _ _ _)
   | (with_reducible exact laws_eqItemS.mono _ _ _)
   | (with_reducible exact laws_eqStore.mono _ _ _)
   | (with_reducible exact laws_heldStore.mono _ _ _)
   | (with_reducible exact laws_markItemS.mono _ _ _)
   | (with_reducible exact laws_markStore.mono _ _ _)
   | (with_reducible exact laws_szItemS.mono _ _ _)
   | (with_reducible exact laws_toItemS.mono _ _)
   | (with_reducible exact laws_toStore.mono _ _)
   | (with_reducible exact spec_PutItems.mono _ _ _ _)
   | (with_reducible exact LeO.refl _)
   | (with_reducible exact LeO.none _)
   | (with_reducible refine LeO.ite ?_ ?_)
   | (with_reducible refine LeO.bind ?_ (fun _ => ?_))
   | exact ih0 _ _ _ _ _ _ _ _ _ _
   | exact ih1 _ _ _ _ _ _ _
   | exact ih2 _ _ _
   | exact impl_PutItems.mono _ _ _ _
   | exact laws_eqItemS.mono _ _ _
   | exact laws_eqStore.mono _ _ _
   | exact laws_heldStore.mono _ _ _
   | exact laws_markItemS.mono _ _ _
   | exact laws_markStore.mono _ _ _
   | exact laws_szItemS.mono _ _ _
   | exact laws_toItemS.mono _ _
   | exact laws_toStore.mono _ _
   | exact spec_PutItems.mono _ _ _ _
   | exact LeO.none _
   | refine LeO.ite ?_ ?_
   | refine LeO.bind ?_ (fun _ => ?_)
  ·intro y0 y1 y2 y3 y4 y5 y6
   unfold laws_FnExactPutItems.j1
   repeat' first
   | (with_reducible exact ih0 _ _ _ _ _ _ _ _ _ _)
   | (with_reducible exact ih1 _ _ _ _ _ _ _)
   | (with_reducible exact ih2 _ _ _)
   | (with_reducible exact impl_PutItems.mono _ _ _ _)
   | (with_reducible exact laws_eqItemS.mono _ _ _)
   | (with_reducible exact laws_eqStore.mono _ _ _)
   | (with_reducible exact laws_heldStore.mono _ _ _)
   | (with_reducible exact laws_markItemS.mono _ _ _)
   | (with_reducible exact laws_markStore.mono _ _ _)
   | (with_reducible exact laws_szItemS.mono _ _ _)
   | (with_reducible exact laws_toItemS.mono _ _)
   | (with_reducible exact laws_toStore.mono _ _)
   | (with_reducible exact spec_PutItems.mono _ _ _ _)
   | (with_reducible exact LeO.refl _)
   | (with_reducible exact LeO.none _)
   | (with_reducible refine LeO.ite ?_ ?_)
   | (with_reducible refine LeO.bind ?_ (fun _ => ?_))
   | exact ih0 _ _ _ _ _ _ _ _ _ _
   | exact ih1 _ _ _ _ _ _ _
   | exact ih2 _ _ _
   | exact impl_PutItems.mono _ _ _ _
   | exact laws_eqItemS.mono _ _ _
   | exact laws_eqStore.mono _ _ _
   | exact laws_heldStore.mono _ _ _
   | exact laws_markItemS.mono _ _ _
   | exact laws_markStore.mono _ _ _
   | exact laws_szItemS.mono _ _ _
   | exact laws_toItemS.mono _ _
   | exact laws_toStore.mono _ _
   | exact spec_PutItems.mono _ _ _ _
   | exact LeO.none _
   | refine LeO.ite ?_ ?_
   | refine LeO.bind ?_ (fun _ => ?_)
  ·intro y0 y1 y2
   unfold laws_FnExactPutItems.j2
   repeat' first
   | (with_reducible exact ih0 _ _ _ _ _ _ _ _ _ _)
   | (with_reducible exact ih1 _ _ _ _ _ _ _)
   | (with_reducible exact ih2 _ _ _)
   | (with_reducible exact impl_PutItems.mono _ _ _ _)
   | (with_reducible exact laws_eqItemS.mono _ _ _)
   | (with_reducible exact laws_eqStore.mono _ _ _)
   | (with_reducible exact laws_heldStore.mono _ _ _)
   | (with_reducible exact laws_markItemS.mono _ _ _)
   | (with_reducible exact laws_markStore.mono _ _ _)
   | (with_reducible exact laws_szItemS.mono _ _ _)
   | (with_reducible exact laws_toItemS.mono _ _)
   | (with_reducible exact laws_toStore.mono _ _)
   | (with_reducible exact spec_PutItems.mono _ _ _ _)
   | (with_reducible exact LeO.refl _)
   | (with_reducible exact LeO.none _)
   | (with_reducible refine LeO.ite ?_ ?_)
   | (with_reducible refine LeO.bind ?_ (fun _ => ?_))
   | exact ih0 _ _ _ _ _ _ _ _ _ _
   | exact ih1 _ _ _ _ _ _ _
   | exact ih2 _ _ _
   | exact impl_PutItems.mono _ _ _ _
   | exact laws_eqItemS.mono _ _ _
   | exact laws_eqStore.mono _ _ _
   | exact laws_heldStore.mono _ _ _
   | exact laws_markItemS.mono _ _ _
   | exact laws_markStore.mono _ _ _
   | exact laws_szItemS.mono _ _ _
   | exact laws_toItemS.mono _ _
   | exact laws_toStore.mono _ _
   | exact spec_PutItems.mono _ _ _ _
   | exact LeO.none _
   | refine LeO.ite ?_ ?_
   | refine LeO.bind ?_ (fun _ => ?_)
theorem laws_FnExactPutItems.mono : ∀ a0 a1 a2 k, LeO (laws_FnExactPutItems.f k a0 a1 a2) (laws_FnExactPutItems.f (k + 1) a0 a1 a2) := by
 intro a0 a1 a2 k
 obtain ⟨ih0, ih1, ih2⟩ := laws_FnExactPutItems.mono_l k
 unfold laws_FnExactPutItems.f
 repeat' first
   | (with_reducible exact ih0 _ _ _ _ _ _ _ _ _ _)
   | (with_reducible exact ih1 _ _ _ _ _ _ _)
   | (with_reducible exact ih2 _ _ _)
   | (with_reducible exact impl_PutItems.mono _ _ _ _)
   | (with_reducible exact laws_eqItemS.mono _ _ _)
   | (with_reducible exact laws_eqStore.mono _ _ _)
   | (with_reducible exact laws_heldStore.mono _ _ _)
   | (with_reducible exact laws_markItemS.mono _ _ _)
   | (with_reducible exact laws_markStore.mono _ _ _)
   | (with_reducible exact laws_szItemS.mono _ _ _)
   | (with_reducible exact laws_toItemS.mono _ _)
   | (with_reducible exact laws_toStore.mono _ _)
   | (with_reducible exact spec_PutItems.mono _ _ _ _)
   | (with_reducible exact LeO.refl _)
   | (with_reducible exact LeO.none _)
   | (with_reducible refine LeO.ite ?_ ?_)
   | (with_reducible refine LeO.bind ?_ (fun _ => ?_))
   | exact ih0 _ _ _ _ _ _ _ _ _ _
   | exact ih1 _ _ _ _ _ _ _
   | exact ih2 _ _ _
   | exact impl_PutItems.mono _ _ _ _
   | exact laws_eqItemS.mono _ _ _
   | exact laws_eqStore.mono _ _ _
   | exact laws_heldStore.mono _ _ _
   | exact laws_markItemS.mono _ _ _
   | exact laws_markStore.mono _ _ _
   | exact laws_szItemS.mono _ _ _
   | exact laws_toItemS.mono _ _
   | exact laws_toStore.mono _ _
   | exact spec_PutItems.mono _ _ _ _
   | exact LeO.none _
   | refine LeO.ite ?_ ?_
   | refine LeO.bind ?_ (fun _ => ?_)
set_option maxHeartbeats 8000000 in
set_option maxRecDepth 100000 in
theorem laws_FnExactPutItems.calls (k : Nat) (A0_0 : Option Addr) (c0_0 : Nat) (l0_0 : List Int) (a1 : Int) (A2 : Option Addr) (c2 : Nat) (l2 : List (S49)) (r : Bool) (w : World) (hr0_0 : Kd.C (Kd.int .u32) w A0_0 l0_0.length l0_0) (hc0_0 : l0_0.length ≤ c0_0) (hr2 : Kd.C k49 w A2 l2.length l2) (hc2 : l2.length ≤ c2) (h : laws_FnExactPutItems.f k l0_0 a1 l2 = some r) :
  Calls Try.prog 9 #[.agg #[.slice A0_0 l0_0.length c0_0], .int .i64 a1, .slice A2 l2.length c2] w fun e w' => e = .returned (.bool r) ∧ Below w.heap.size w w' := by
 have hu42 := Try.underlying42
 have hu34 := Try.underlying34
 have HR0_0 := Aside0.mk hr0_0
 have HC0_0 := Aside0.mk hc0_0
 clear hr0_0 hc0_0
 have HR2 := Aside0.mk hr2
 have HC2 := Aside0.mk hc2
 clear hr2 hc2
 have HB := Z (Below.refl w.heap.size w)
 have H : ((laws_szStore.f l0_0 1048576).bind fun t399 => (if t399 < 0 then (some true) else ((laws_szItemS.f k l2 t399).bind fun t400 => (if t400 < 0 then (some true) else ((laws_toStore.f k l0_0).bind fun t401 => ((laws_toItemS.f k l2).bind fun t404 => ((spec_PutItems.f k t401 a1 t404).bind fun bt407 => ((laws_toStore.f k l0_0).bind fun t412 => ((laws_toItemS.f k l2).bind fun t416 => ((impl_PutItems.f k t412 a1 t416).bind fun bt419 => ((laws_eqStore.f k bt419.1 bt407.1).bind fun t424 => (if t424 = true then (laws_FnExactPutItems.j0 k a1 l2 bt407.2 t416 bt419.2 (bt419.2 != bt407.2) l0_0 bt407.1 t412 bt419.1) else (laws_FnExactPutItems.j0 k a1 l2 bt407.2 t416 bt419.2 true l0_0 bt407.1 t412 bt419.1))))))))))))) = some r := h
 clear h
 replace H := Option.bind_eq_some_iff.mp H
 obtain ⟨t399, A40, H⟩ := H
 replace H : (if t399 < 0 then (some true) else ((laws_szItemS.f k l2 t399).bind fun t400 => (if t400 < 0 then (some true) else ((laws_toStore.f k l0_0).bind fun t401 => ((laws_toItemS.f k l2).bind fun t404 => ((spec_PutItems.f k t401 a1 t404).bind fun bt407 => ((laws_toStore.f k l0_0).bind fun t412 => ((laws_toItemS.f k l2).bind fun t416 => ((impl_PutItems.f k t412 a1 t416).bind fun bt419 => ((laws_eqStore.f k bt419.1 bt407.1).bind fun t424 => (if t424 = true then (laws_FnExactPutItems.j0 k a1 l2 bt407.2 t416 bt419.2 (bt419.2 != bt407.2) l0_0 bt407.1 t412 bt419.1) else (laws_FnExactPutItems.j0 k a1 l2 bt407.2 t416 bt419.2 true l0_0 bt407.1 t412 bt419.1)))))))))))) = some r := H
 have A4 := Aside0.mk A40
 clear A40
 by_cases c5 : t399 < 0
 ·rw [if_pos c5] at H
  have c5b0 : decide (t399 < 0) = true := decide_eq_true c5
  clear c5
  obtain rfl := Option.some.inj H
  go_enter Try.func9, Try.ntmps9
  go_wp2_with (first | ((with_reducible refine gate_dst (N := 3) rfl ?_); refine box_event (by rfl) (N := 3) (by rfl) (cs := #[.slice A0_0 l0_0.length c0_0]) (t := 42) Z8 ?_; intro gb398 hg w6 hbox hb; have BK398 := Z (hbox); have GW398 := Z ((Z63 : w.heap.size ≤ gb398)); have GE398 := Z ((Z63 : w.heap.size ≤ gb398)); replace HB := Z (below_step Z42 hb); clear hb hbox hg; have hcz7_0 : w6.cell? ⟨gb398, 0, none⟩ = some (.slice A0_0 l0_0.length c0_0) := (blk_cell BK398.out 0).trans rfl; have hfz7_0 := blk_frozen BK398.out 0) | ((with_reducible refine gate_callee (f := 29) rfl ?_); refine goesL_ (some 21) rfl rfl Try.func29 Z0 rfl #[.agg #[.slice A0_0 l0_0.length c0_0], .int .i64 1048576] rfl Z11 ?_; (with_reducible refine (laws_szStore.calls _ _ l0_0 1048576 t399 _ ?side1 ?side2 A4.out).mono ?_); (case side1 => exact (Z12 HR0_0)); (case side2 => exact HC0_0.out); rintro e w8 ⟨rfl, hb⟩; refine ⟨_, rfl, ?_⟩; replace BK398 := Z (blk_below (g := gb398) (o := .cells #[.slice A0_0 l0_0.length c0_0] 42 (0, 0)) (Z10 BK398) hb); replace HB := Z (below_step Z42 hb); (try clear hb); (try clear hb2); (try clear hk); (try clear hi)))
  go_ret
  exact ⟨Z13, Z42⟩
 ·rw [if_neg c5] at H
  have c5b0 : decide (t399 < 0) = false := decide_eq_false c5
  clear c5
  replace H := Option.bind_eq_some_iff.mp H
  obtain ⟨t400, A90, H⟩ := H
  replace H : (if t400 < 0 then (some true) else ((laws_toStore.f k l0_0).bind fun t401 => ((laws_toItemS.f k l2).bind fun t404 => ((spec_PutItems.f k t401 a1 t404).bind fun bt407 => ((laws_toStore.f k l0_0).bind fun t412 => ((laws_toItemS.f k l2).bind fun t416 => ((impl_PutItems.f k t412 a1 t416).bind fun bt419 => ((laws_eqStore.f k bt419.1 bt407.1).bind fun t424 => (if t424 = true then (laws_FnExactPutItems.j0 k a1 l2 bt407.2 t416 bt419.2 (bt419.2 != bt407.2) l0_0 bt407.1 t412 bt419.1) else (laws_FnExactPutItems.j0 k a1 l2 bt407.2 t416 bt419.2 true l0_0 bt407.1 t412 bt419.1)))))))))) = some r := H
  have A9 := Aside0.mk A90
  clear A90
  by_cases c10 : t400 < 0
  ·rw [if_pos c10] at H
   have c10b0 : decide (t400 < 0) = true := decide_eq_true c10
   clear c10
   obtain rfl := Option.some.inj H
   go_enter Try.func9, Try.ntmps9
   go_wp2_with (first | ((with_reducible refine gate_dst (N := 3) rfl ?_); refine box_event (by rfl) (N := 3) (by rfl) (cs := #[.slice A0_0 l0_0.length c0_0]) (t := 42) Z8 ?_; intro gb398 hg w11 hbox hb; have BK398 := Z (hbox); have GW398 := Z ((Z63 : w.heap.size ≤ gb398)); have GE398 := Z ((Z63 : w.heap.size ≤ gb398)); replace HB := Z (below_step Z42 hb); clear hb hbox hg; have hcz12_0 : w11.cell? ⟨gb398, 0, none⟩ = some (.slice A0_0 l0_0.length c0_0) := (blk_cell BK398.out 0).trans rfl; have hfz12_0 := blk_frozen BK398.out 0) | ((with_reducible refine gate_callee (f := 29) rfl ?_); refine goesL_ (some 21) rfl rfl Try.func29 Z0 rfl #[.agg #[.slice A0_0 l0_0.length c0_0], .int .i64 1048576] rfl Z11 ?_; (with_reducible refine (laws_szStore.calls _ _ l0_0 1048576 t399 _ ?side1 ?side2 A4.out).mono ?_); (case side1 => exact (Z12 HR0_0)); (case side2 => exact HC0_0.out); rintro e w13 ⟨rfl, hb⟩; refine ⟨_, rfl, ?_⟩; replace BK398 := Z (blk_below (g := gb398) (o := .cells #[.slice A0_0 l0_0.length c0_0] 42 (0, 0)) (Z10 BK398) hb); replace HB := Z (below_step Z42 hb); (try clear hb); (try clear hb2); (try clear hk); (try clear hi)) | ((with_reducible refine gate_callee (f := 44) rfl ?_); refine goesL_ (some 26) rfl rfl Try.func44 Z0 rfl #[.slice A2 l2.length c2, .int .i64 t399] rfl Z11 ?_; (with_reducible refine (laws_szItemS.calls k _ _ l2 t399 t400 _ ?side1 ?side2 A9.out).mono ?_); (case side1 => exact (Z12 HR2)); (case side2 => exact HC2.out); rintro e w14 ⟨rfl, hb⟩; refine ⟨_, rfl, ?_⟩; replace BK398 := Z (blk_below (g := gb398) (o := .cells #[.slice A0_0 l0_0.length c0_0] 42 (0, 0)) (Z10 BK398) hb); replace HB := Z (below_step Z42 hb); (try clear hb); (try clear hb2); (try clear hk); (try clear hi)))
   go_ret
   exact ⟨Z13, Z42⟩
  ·rw [if_neg c10] at H
   have c10b0 : decide (t400 < 0) = false := decide_eq_false c10
   clear c10
   replace H := Option.bind_eq_some_iff.mp H
   obtain ⟨t401, A150, H⟩ := H
   replace H : ((laws_toItemS.f k l2).bind fun t404 => ((spec_PutItems.f k t401 a1 t404).bind fun bt407 => ((laws_toStore.f k l0_0).bind fun t412 => ((laws_toItemS.f k l2).bind fun t416 => ((impl_PutItems.f k t412 a1 t416).bind fun bt419 => ((laws_eqStore.f k bt419.1 bt407.1).bind fun t424 => (if t424 = true then (laws_FnExactPutItems.j0 k a1 l2 bt407.2 t416 bt419.2 (bt419.2 != bt407.2) l0_0 bt407.1 t412 bt419.1) else (laws_FnExactPutItems.j0 k a1 l2 bt407.2 t416 bt419.2 true l0_0 bt407.1 t412 bt419.1)))))))) = some r := H
   have A15 := Aside0.mk A150
   clear A150
   replace H := Option.bind_eq_some_iff.mp H
   obtain ⟨t404, A160, H⟩ := H
   replace H : ((spec_PutItems.f k t401 a1 t404).bind fun bt407 => ((laws_toStore.f k l0_0).bind fun t412 => ((laws_toItemS.f k l2).bind fun t416 => ((impl_PutItems.f k t412 a1 t416).bind fun bt419 => ((laws_eqStore.f k bt419.1 bt407.1).bind fun t424 => (if t424 = true then (laws_FnExactPutItems.j0 k a1 l2 bt407.2 t416 bt419.2 (bt419.2 != bt407.2) l0_0 bt407.1 t412 bt419.1) else (laws_FnExactPutItems.j0 k a1 l2 bt407.2 t416 bt419.2 true l0_0 bt407.1 t412 bt419.1))))))) = some r := H
   have A16 := Aside0.mk A160
   clear A160
   replace H := Option.bind_eq_some_iff.mp H
   obtain ⟨⟨t407, t410⟩, A170, H⟩ := H
   replace H : ((laws_toStore.f k l0_0).bind fun t412 => ((laws_toItemS.f k l2).bind fun t416 => ((impl_PutItems.f k t412 a1 t416).bind fun bt419 => ((laws_eqStore.f k bt419.1 t407).bind fun t424 => (if t424 = true then (laws_FnExactPutItems.j0 k a1 l2 t410 t416 bt419.2 (bt419.2 != t410) l0_0 t407 t412 bt419.1) else (laws_FnExactPutItems.j0 k a1 l2 t410 t416 bt419.2 true l0_0 t407 t412 bt419.1)))))) = some r := H
   have A17 := Aside0.mk A170
   clear A170
   replace H := Option.bind_eq_some_iff.mp H
   obtain ⟨t412, A180, H⟩ := H
   replace H : ((laws_toItemS.f k l2).bind fun t416 => ((impl_PutItems.f k t412 a1 t416).bind fun bt419 => ((laws_eqStore.f k bt419.1 t407).bind fun t424 => (if t424 = true then (laws_FnExactPutItems.j0 k a1 l2 t410 t416 bt419.2 (bt419.2 != t410) l0_0 t407 t412 bt419.1) else (laws_FnExactPutItems.j0 k a1 l2 t410 t416 bt419.2 true l0_0 t407 t412 bt419.1))))) = some r := H
   have A18 := Aside0.mk A180
   clear A180
   replace H := Option.bind_eq_some_iff.mp H
   obtain ⟨t416, A190, H⟩ := H
   replace H : ((impl_PutItems.f k t412 a1 t416).bind fun bt419 => ((laws_eqStore.f k bt419.1 t407).bind fun t424 => (if t424 = true then (laws_FnExactPutItems.j0 k a1 l2 t410 t416 bt419.2 (bt419.2 != t410) l0_0 t407 t412 bt419.1) else (laws_FnExactPutItems.j0 k a1 l2 t410 t416 bt419.2 true l0_0 t407 t412 bt419.1)))) = some r := H
   have A19 := Aside0.mk A190
   clear A190
   replace H := Option.bind_eq_some_iff.mp H
   obtain ⟨⟨t419, t422⟩, A200, H⟩ := H
   replace H : ((laws_eqStore.f k t419 t407).bind fun t424 => (if t424 = true then (laws_FnExactPutItems.j0 k a1 l2 t410 t416 t422 (t422 != t410) l0_0 t407 t412 t419) else (laws_FnExactPutItems.j0 k a1 l2 t410 t416 t422 true l0_0 t407 t412 t419))) = some r := H
   have A20 := Aside0.mk A200
   clear A200
   have HC21 := Aside0.mk H
   clear H
   go_enter Try.func9, Try.ntmps9
   go_upto_region 12 with (first | ((with_reducible refine gate_dst (N := 3) rfl ?_); refine box_event (by rfl) (N := 3) (by rfl) (cs := #[.slice A0_0 l0_0.length c0_0]) (t := 42) Z8 ?_; intro gb398 hg w22 hbox hb; have BK398 := Z (hbox); have GW398 := Z ((Z63 : w.heap.size ≤ gb398)); have GE398 := Z ((Z63 : w.heap.size ≤ gb398)); replace HB := Z (below_step Z42 hb); clear hb hbox hg; have hcz23_0 : w22.cell? ⟨gb398, 0, none⟩ = some (.slice A0_0 l0_0.length c0_0) := (blk_cell BK398.out 0).trans rfl; have hfz23_0 := blk_frozen BK398.out 0) | ((with_reducible refine gate_callee (f := 29) rfl ?_); refine goesL_ (some 21) rfl rfl Try.func29 Z0 rfl #[.agg #[.slice A0_0 l0_0.length c0_0], .int .i64 1048576] rfl Z11 ?_; (with_reducible refine (laws_szStore.calls _ _ l0_0 1048576 t399 _ ?side1 ?side2 A4.out).mono ?_); (case side1 => exact (Z12 HR0_0)); (case side2 => exact HC0_0.out); rintro e w24 ⟨rfl, hb⟩; refine ⟨_, rfl, ?_⟩; replace BK398 := Z (blk_below (g := gb398) (o := .cells #[.slice A0_0 l0_0.length c0_0] 42 (0, 0)) (Z10 BK398) hb); replace HB := Z (below_step Z42 hb); (try clear hb); (try clear hb2); (try clear hk); (try clear hi)) | ((with_reducible refine gate_callee (f := 44) rfl ?_); refine goesL_ (some 26) rfl rfl Try.func44 Z0 rfl #[.slice A2 l2.length c2, .int .i64 t399] rfl Z11 ?_; (with_reducible refine (laws_szItemS.calls k _ _ l2 t399 t400 _ ?side1 ?side2 A9.out).mono ?_); (case side1 => exact (Z12 HR2)); (case side2 => exact HC2.out); rintro e w25 ⟨rfl, hb⟩; refine ⟨_, rfl, ?_⟩; replace BK398 := Z (blk_below (g := gb398) (o := .cells #[.slice A0_0 l0_0.length c0_0] 42 (0, 0)) (Z10 BK398) hb); replace HB := Z (below_step Z42 hb); (try clear hb); (try clear hb2); (try clear hk); (try clear hi); have hcz26_0 : w25.cell? ⟨gb398, 0, none⟩ = some (.slice A0_0 l0_0.length c0_0) := (blk_cell BK398.out 0).trans rfl; have hfz26_0 := blk_frozen BK398.out 0) | ((with_reducible refine gate_callee (f := 31) rfl ?_); refine goesL_ (some 31) rfl rfl Try.func31 Z0 rfl #[.agg #[.slice A0_0 l0_0.length c0_0]] rfl Z11 ?_; (with_reducible refine (laws_toStore.calls k _ _ l0_0 t401 _ ?side1 ?side2 A15.out).mono ?_); (case side1 => exact (Z12 HR0_0)); (case side2 => exact HC0_0.out); rintro e w27 ⟨v402, rfl, ho0, hb⟩; refine ⟨_, rfl, ?_⟩; have HO403 := Z (Kd.R_lower ho0 (below_size Z42)); replace BK398 := Z (blk_below (g := gb398) (o := .cells #[.slice A0_0 l0_0.length c0_0] 42 (0, 0)) (Z10 BK398) hb); replace HB := Z (below_step Z42 hb); (try clear hb); (try clear hb2); (try clear hk); (try clear hi); (try clear ho0)) | ((with_reducible refine gate_callee (f := 46) rfl ?_); refine goesL_ (some 34) rfl rfl Try.func46 Z0 rfl #[.slice A2 l2.length c2] rfl Z11 ?_; (with_reducible refine (laws_toItemS.calls k _ _ l2 t404 _ ?side1 ?side2 A16.out).mono ?_); (case side1 => exact (Z12 HR2)); (case side2 => exact HC2.out); rintro e w28 ⟨v405, rfl, ho0, hb⟩; refine ⟨_, rfl, ?_⟩; replace HO403 := Z (Kd.R_below (Z14 HO403) hb); have HO406 := Z (Kd.R_lower ho0 (below_size Z42)); replace BK398 := Z (blk_below (g := gb398) (o := .cells #[.slice A0_0 l0_0.length c0_0] 42 (0, 0)) (Z10 BK398) hb); replace HB := Z (below_step Z42 hb); (try clear hb); (try clear hb2); (try clear hk); (try clear hi); (try clear ho0); obtain ⟨Ao29, co29, eo29⟩ := Kd.R_slice HO403.out; subst eo29; obtain ⟨Ao30, co30, eo30⟩ := Kd.R_slice HO406.out; subst eo30) | ((with_reducible refine gate_callee (f := 45) rfl ?_); refine goesL_ (some 35) rfl rfl Try.func45 Z0 rfl #[.agg #[.slice Ao29 t401.length co29], .int .i64 a1, .slice Ao30 t404.length co30] rfl Z11 ?_; (with_reducible refine (spec_PutItems.calls k _ _ t401 a1 _ _ t404 t407 t410 _ ?side1 ?side2 ?side3 ?side4 A17.out).mono ?_); (case side1 => exact (Z21 HO403)); (case side2 => exact (Kd.R_reads' HO403.out).2.1); (case side3 => exact (Z21 HO406)); (case side4 => exact (Kd.R_reads' HO406.out).2.1); rintro e w31 ⟨v408, rfl, ho0, hb⟩; refine ⟨_, rfl, ?_⟩; replace HO406 := Z (Kd.R_below (Z14 HO406) hb); have HO409 := Z (Kd.R_lower (Kd.R_new' ho0 (Kd.R_lt (Z14 HO403))) (below_size Z42)); replace HO403 := Z (Kd.R_elder' (Z14 HO403) (Kd.R_base ho0) hb); replace BK398 := Z (blk_below (g := gb398) (o := .cells #[.slice A0_0 l0_0.length c0_0] 42 (0, 0)) (Z10 BK398) hb); replace HB := Z (below_step Z42 hb); (try clear hb); (try clear hb2); (try clear hk); (try clear hi); (try clear ho0)) | ((with_reducible refine gate_dst (N := 8) rfl ?_); refine box_event (by rfl) (N := 8) (by rfl) (cs := #[.slice none 0 0]) (t := 34) Z8 ?_; intro gb411 hg w32 hbox hb; replace HO403 := Z (Kd.R_below (Z14 HO403) hb); replace HO406 := Z (Kd.R_below (Z14 HO406) hb); replace HO409 := Z (Kd.R_below (Z14 HO409) hb); have BK411 := Z (hbox); have GW411 := Z ((Z63 : w.heap.size ≤ gb411)); have GE411 := Z ((Z63 : w.heap.size ≤ gb411)); replace HB := Z (below_step Z42 hb); have NB398_411 := Z ((Z59 : gb398 ≠ gb411)); have NB411_398 := Z ((Z60 : gb411 ≠ gb398)); replace BK398 := Z (blk_below (g := gb398) (o := .cells #[.slice A0_0 l0_0.length c0_0] 42 (0, 0)) (Z10 BK398) hb); clear hb hbox hg; obtain ⟨Ao33, co33, eo33⟩ := Kd.R_slice HO409.out; subst eo33; have hnb34 := NB411_398.out; have hnc34 := NB398_411.out; have hcz35_0 : w32.cell? ⟨gb411, 0, none⟩ = some (.slice none 0 0) := (blk_cell BK411.out 0).trans rfl; have hfz35_0 := blk_frozen BK411.out 0; have hcz36_0 : w32.cell? ⟨gb398, 0, none⟩ = some (.slice A0_0 l0_0.length c0_0) := (blk_cell BK398.out 0).trans rfl; have hfz36_0 := blk_frozen BK398.out 0) | ((with_reducible refine gate_callee (f := 31) rfl ?_); refine goesL_ (some 39) rfl rfl Try.func31 Z0 rfl #[.agg #[.slice A0_0 l0_0.length c0_0]] rfl Z11 ?_; (with_reducible refine (laws_toStore.calls k _ _ l0_0 t412 _ ?side1 ?side2 A18.out).mono ?_); (case side1 => exact Kd.C_below HR0_0.out Z42); (case side2 => exact HC0_0.out); rintro e w37 ⟨v413, rfl, ho0, hb⟩; refine ⟨_, rfl, ?_⟩; replace HO406 := Z (Kd.R_below (by (with_reducible repeat (first | apply Kd.R_alloc | apply Kd.R_drewN | apply Kd.R_drew)); exact (Kd.R_mono (Kd.R_far (p := ⟨gb411, 0, none⟩) (Kd.R_types HO406.out BK411.out (by decide)) (fun _ hk => hk.2) (.slice Ao33 t407.length co33)) (fun _ h_ => h_.1))) hb); have HO414 := Z (Kd.R_lower (Kd.R_new' (Kd.R_new' ho0 (Kd.R_lt (by (with_reducible repeat (first | apply Kd.R_alloc | apply Kd.R_drewN | apply Kd.R_drew)); exact (Kd.R_mono (Kd.R_far (p := ⟨gb411, 0, none⟩) (Kd.R_types HO403.out BK411.out (by decide)) (fun _ hk => hk.2) (.slice Ao33 t407.length co33)) (fun _ h_ => h_.1))))) (Kd.R_lt (by (with_reducible repeat (first | apply Kd.R_alloc | apply Kd.R_drewN | apply Kd.R_drew)); exact (Kd.R_mono (Kd.R_far (p := ⟨gb411, 0, none⟩) (Kd.R_types HO409.out BK411.out (by decide)) (fun _ hk => hk.2) (.slice Ao33 t407.length co33)) (fun _ h_ => h_.1))))) (below_size Z42)); replace HO403 := Z (Kd.R_elder' (by (with_reducible repeat (first | apply Kd.R_alloc | apply Kd.R_drewN | apply Kd.R_drew)); exact (Kd.R_mono (Kd.R_far (p := ⟨gb411, 0, none⟩) (Kd.R_types HO403.out BK411.out (by decide)) (fun _ hk => hk.2) (.slice Ao33 t407.length co33)) (fun _ h_ => h_.1))) (Kd.R_base ho0) hb); replace HO409 := Z (Kd.R_elder' (by (with_reducible repeat (first | apply Kd.R_alloc | apply Kd.R_drewN | apply Kd.R_drew)); exact (Kd.R_mono (Kd.R_far (p := ⟨gb411, 0, none⟩) (Kd.R_types HO409.out BK411.out (by decide)) (fun _ hk => hk.2) (.slice Ao33 t407.length co33)) (fun _ h_ => h_.1))) (Kd.R_base ho0) hb); replace BK398 := Z (blk_below (g := gb398) (o := .cells #[.slice A0_0 l0_0.length c0_0] 42 (0, 0)) (by (with_reducible repeat (first | refine blk_drewN ?_ _ | refine blk_drew ?_ | refine blk_alloc ?_ _)); refine blk_far ?_ NB398_411.out _; (with_reducible repeat (first | refine blk_drewN ?_ _ | refine blk_drew ?_ | refine blk_alloc ?_ _)); exact BK398.out) hb); replace BK411 := Z (blk_below (g := gb411) (o := .cells #[.slice Ao33 t407.length co33] 34 (0, 0)) (Z18 BK411) hb); replace HB := Z (below_step Z42 hb); (try clear hb); (try clear hb2); (try clear hk); (try clear hi); (try clear ho0)) | ((with_reducible refine gate_dst (N := 10) rfl ?_); refine box_event (by rfl) (N := 10) (by rfl) (cs := #[.slice none 0 0]) (t := 34) Z8 ?_; intro gb415 hg w38 hbox hb; replace HO403 := Z (Kd.R_below (Z14 HO403) hb); replace HO406 := Z (Kd.R_below (Z14 HO406) hb); replace HO409 := Z (Kd.R_below (Z14 HO409) hb); replace HO414 := Z (Kd.R_below (Z14 HO414) hb); have BK415 := Z (hbox); have GW415 := Z ((Z63 : w.heap.size ≤ gb415)); have GE415 := Z ((Z63 : w.heap.size ≤ gb415)); replace HB := Z (below_step Z42 hb); have NB398_415 := Z ((Z59 : gb398 ≠ gb415)); have NB415_398 := Z ((Z60 : gb415 ≠ gb398)); replace BK398 := Z (blk_below (g := gb398) (o := .cells #[.slice A0_0 l0_0.length c0_0] 42 (0, 0)) (Z10 BK398) hb); have NB411_415 := Z ((Z61 : gb411 ≠ gb415)); have NB415_411 := Z ((Z62 : gb415 ≠ gb411)); replace BK411 := Z (blk_below (g := gb411) (o := .cells #[.slice Ao33 t407.length co33] 34 (0, 0)) (Z10 BK411) hb); clear hb hbox hg; obtain ⟨Ao39, co39, eo39⟩ := Kd.R_slice HO414.out; subst eo39; have hnb40 := NB415_398.out; have hnc40 := NB398_415.out; have hnb41 := NB415_411.out; have hnc41 := NB411_415.out; have hcz42_0 : w38.cell? ⟨gb415, 0, none⟩ = some (.slice none 0 0) := (blk_cell BK415.out 0).trans rfl; have hfz42_0 := blk_frozen BK415.out 0) | ((with_reducible refine gate_callee (f := 46) rfl ?_); refine goesL_ (some 41) rfl rfl Try.func46 Z0 rfl #[.slice A2 l2.length c2] rfl Z11 ?_; (with_reducible refine (laws_toItemS.calls k _ _ l2 t416 _ ?side1 ?side2 A19.out).mono ?_); (case side1 => exact Kd.C_below HR2.out Z42); (case side2 => exact HC2.out); rintro e w43 ⟨v417, rfl, ho0, hb⟩; refine ⟨_, rfl, ?_⟩; replace HO403 := Z (Kd.R_below (by (with_reducible repeat (first | apply Kd.R_alloc | apply Kd.R_drewN | apply Kd.R_drew)); exact (Kd.R_mono (Kd.R_far (p := ⟨gb415, 0, none⟩) (Kd.R_types HO403.out BK415.out (by decide)) (fun _ hk => hk.2) (.slice Ao39 t412.length co39)) (fun _ h_ => h_.1))) hb); replace HO409 := Z (Kd.R_below (by (with_reducible repeat (first | apply Kd.R_alloc | apply Kd.R_drewN | apply Kd.R_drew)); exact (Kd.R_mono (Kd.R_far (p := ⟨gb415, 0, none⟩) (Kd.R_types HO409.out BK415.out (by decide)) (fun _ hk => hk.2) (.slice Ao39 t412.length co39)) (fun _ h_ => h_.1))) hb); replace HO414 := Z (Kd.R_below (by (with_reducible repeat (first | apply Kd.R_alloc | apply Kd.R_drewN | apply Kd.R_drew)); exact (Kd.R_mono (Kd.R_far (p := ⟨gb415, 0, none⟩) (Kd.R_types HO414.out BK415.out (by decide)) (fun _ hk => hk.2) (.slice Ao39 t412.length co39)) (fun _ h_ => h_.1))) hb); have HO418 := Z (Kd.R_lower (Kd.R_new' ho0 (Kd.R_lt (by (with_reducible repeat (first | apply Kd.R_alloc | apply Kd.R_drewN | apply Kd.R_drew)); exact (Kd.R_mono (Kd.R_far (p := ⟨gb415, 0, none⟩) (Kd.R_types HO406.out BK415.out (by decide)) (fun _ hk => hk.2) (.slice Ao39 t412.length co39)) (fun _ h_ => h_.1))))) (below_size Z42)); replace HO406 := Z (Kd.R_elder' (by (with_reducible repeat (first | apply Kd.R_alloc | apply Kd.R_drewN | apply Kd.R_drew)); exact (Kd.R_mono (Kd.R_far (p := ⟨gb415, 0, none⟩) (Kd.R_types HO406.out BK415.out (by decide)) (fun _ hk => hk.2) (.slice Ao39 t412.length co39)) (fun _ h_ => h_.1))) (Kd.R_base ho0) hb); replace BK398 := Z (blk_below (g := gb398) (o := .cells #[.slice A0_0 l0_0.length c0_0] 42 (0, 0)) (by (with_reducible repeat (first | refine blk_drewN ?_ _ | refine blk_drew ?_ | refine blk_alloc ?_ _)); refine blk_far ?_ NB398_415.out _; (with_reducible repeat (first | refine blk_drewN ?_ _ | refine blk_drew ?_ | refine blk_alloc ?_ _)); exact BK398.out) hb); replace BK411 := Z (blk_below (g := gb411) (o := .cells #[.slice Ao33 t407.length co33] 34 (0, 0)) (by (with_reducible repeat (first | refine blk_drewN ?_ _ | refine blk_drew ?_ | refine blk_alloc ?_ _)); refine blk_far ?_ NB411_415.out _; (with_reducible repeat (first | refine blk_drewN ?_ _ | refine blk_drew ?_ | refine blk_alloc ?_ _)); exact BK411.out) hb); replace BK415 := Z (blk_below (g := gb415) (o := .cells #[.slice Ao39 t412.length co39] 34 (0, 0)) (Z18 BK415) hb); replace HB := Z (below_step Z42 hb); (try clear hb); (try clear hb2); (try clear hk); (try clear hi); (try clear ho0); have hcz44_0 : w43.cell? ⟨gb415, 0, none⟩ = some (.slice Ao39 t412.length co39) := (blk_cell BK415.out 0).trans rfl; have hfz44_0 := blk_frozen BK415.out 0; obtain ⟨Ao45, co45, eo45⟩ := Kd.R_slice HO418.out; subst eo45) | ((with_reducible refine gate_callee (f := 47) rfl ?_); refine goesL_ (some 46) rfl rfl Try.func47 Z0 rfl #[.agg #[.slice Ao39 t412.length co39], .int .i64 a1, .slice Ao45 t416.length co45] rfl Z11 ?_; (with_reducible refine (impl_PutItems.calls k _ _ t412 a1 _ _ t416 t419 t422 _ ?side1 ?side2 ?side3 ?side4 A20.out).mono ?_); (case side1 => exact (Z21 HO414)); (case side2 => exact (Kd.R_reads' HO414.out).2.1); (case side3 => exact (Z21 HO418)); (case side4 => exact (Kd.R_reads' HO418.out).2.1); rintro e w46 ⟨v420, rfl, ho0, hb⟩; refine ⟨_, rfl, ?_⟩; replace HO406 := Z (Kd.R_below (Z14 HO406) hb); replace HO418 := Z (Kd.R_below (Z14 HO418) hb); have HO421 := Z (Kd.R_lower (Kd.R_new' (Kd.R_new' (Kd.R_new' ho0 (Kd.R_lt (Z14 HO403))) (Kd.R_lt (Z14 HO409))) (Kd.R_lt (Z14 HO414))) (below_size Z42)); replace HO403 := Z (Kd.R_elder' (Z14 HO403) (Kd.R_base ho0) hb); replace HO409 := Z (Kd.R_elder' (Z14 HO409) (Kd.R_base ho0) hb); replace HO414 := Z (Kd.R_elder' (Z14 HO414) (Kd.R_base ho0) hb); replace BK398 := Z (blk_below (g := gb398) (o := .cells #[.slice A0_0 l0_0.length c0_0] 42 (0, 0)) (Z10 BK398) hb); replace BK411 := Z (blk_below (g := gb411) (o := .cells #[.slice Ao33 t407.length co33] 34 (0, 0)) (Z10 BK411) hb); replace BK415 := Z (blk_below (g := gb415) (o := .cells #[.slice Ao39 t412.length co39] 34 (0, 0)) (Z10 BK415) hb); replace HB := Z (below_step Z42 hb); (try clear hb); (try clear hb2); (try clear hk); (try clear hi); (try clear ho0)) | ((with_reducible refine gate_dst (N := 12) rfl ?_); refine box_event (by rfl) (N := 12) (by rfl) (cs := #[.slice none 0 0]) (t := 34) Z8 ?_; intro gb423 hg w47 hbox hb; replace HO403 := Z (Kd.R_below (Z14 HO403) hb); replace HO406 := Z (Kd.R_below (Z14 HO406) hb); replace HO409 := Z (Kd.R_below (Z14 HO409) hb); replace HO414 := Z (Kd.R_below (Z14 HO414) hb); replace HO418 := Z (Kd.R_below (Z14 HO418) hb); replace HO421 := Z (Kd.R_below (Z14 HO421) hb); have BK423 := Z (hbox); have GW423 := Z ((Z63 : w.heap.size ≤ gb423)); have GE423 := Z ((Z63 : w.heap.size ≤ gb423)); replace HB := Z (below_step Z42 hb); have NB398_423 := Z ((Z59 : gb398 ≠ gb423)); have NB423_398 := Z ((Z60 : gb423 ≠ gb398)); replace BK398 := Z (blk_below (g := gb398) (o := .cells #[.slice A0_0 l0_0.length c0_0] 42 (0, 0)) (Z10 BK398) hb); have NB411_423 := Z ((Z61 : gb411 ≠ gb423)); have NB423_411 := Z ((Z62 : gb423 ≠ gb411)); replace BK411 := Z (blk_below (g := gb411) (o := .cells #[.slice Ao33 t407.length co33] 34 (0, 0)) (Z10 BK411) hb); have NB415_423 := Z ((by rw [hg]; exact Nat.ne_of_lt (blk_lt (g := gb415) (o := .cells #[.slice Ao39 t412.length co39] 34 (0, 0)) (Z10 BK415)) : gb415 ≠ gb423)); have NB423_415 := Z ((by rw [hg]; exact Nat.ne_of_gt (blk_lt (g := gb415) (o := .cells #[.slice Ao39 t412.length co39] 34 (0, 0)) (Z10 BK415)) : gb423 ≠ gb415)); replace BK415 := Z (blk_below (g := gb415) (o := .cells #[.slice Ao39 t412.length co39] 34 (0, 0)) (Z10 BK415) hb); clear hb hbox hg; obtain ⟨Ao48, co48, eo48⟩ := Kd.R_slice HO421.out; subst eo48; have hnb49 := NB423_398.out; have hnc49 := NB398_423.out; have hnb50 := NB423_411.out; have hnc50 := NB411_423.out; have hnb51 := NB423_415.out; have hnc51 := NB415_423.out; have hcz52_0 : w47.cell? ⟨gb423, 0, none⟩ = some (.slice none 0 0) := (blk_cell BK423.out 0).trans rfl; have hfz52_0 := blk_frozen BK423.out 0))
   (try simp only [Act.put, List.setIfInBounds_toArray, List.set_cons_zero, List.set_cons_succ])
   go_cut [57] (fun v57 wc => ∃ (kq : Nat) (x57_20 : Bool), v57 = .bool x57_20 ∧ Aside0 (laws_FnExactPutItems.j0 kq a1 l2 t410 t416 t422 x57_20 l0_0 t407 t412 t419 = some r) ∧ Aside0 (kq ≤ k) ∧ Aside0 (Kd.R k51 51 wc w.heap.size (fun _ => True) (.slice Ao45 t416.length co45) t416) ∧ Aside0 (Kd.R (Kd.int .u32) 47 wc w.heap.size (fun k_ => some k_ ≠ ((.slice Ao39 t412.length co39) : Value).ownBlock ∧ some k_ ≠ ((.slice Ao48 t419.length co48) : Value).ownBlock) (.slice Ao33 t407.length co33) t407) ∧ Aside0 (Kd.R (Kd.int .u32) 47 wc w.heap.size (fun k_ => some k_ ≠ ((.slice Ao33 t407.length co33) : Value).ownBlock ∧ some k_ ≠ ((.slice Ao48 t419.length co48) : Value).ownBlock) (.slice Ao39 t412.length co39) t412) ∧ Aside0 (Kd.R (Kd.int .u32) 47 wc w.heap.size (fun k_ => some k_ ≠ ((.slice Ao33 t407.length co33) : Value).ownBlock ∧ some k_ ≠ ((.slice Ao39 t412.length co39) : Value).ownBlock) (.slice Ao48 t419.length co48) t419) ∧ Aside0 (wc.heap[gb398]? = some (.cells #[(.slice A0_0 l0_0.length c0_0)] 42 (0, 0))) ∧ Aside0 (wc.heap[gb411]? = some (.cells #[(.slice Ao33 t407.length co33)] 34 (0, 0))) ∧ Aside0 (wc.heap[gb415]? = some (.cells #[(.slice Ao39 t412.length co39)] 34 (0, 0))) ∧ Aside0 (wc.heap[gb423]? = some (.cells #[(.slice Ao48 t419.length co48)] 34 (0, 0))) ∧ Aside0 (Below w.heap.size w wc))
   case first =>
    have H := HC21.out
    clear HC21
    replace H := Option.bind_eq_some_iff.mp H
    obtain ⟨t424, A530, H⟩ := H
    replace H : (if t424 = true then (laws_FnExactPutItems.j0 k a1 l2 t410 t416 t422 (t422 != t410) l0_0 t407 t412 t419) else (laws_FnExactPutItems.j0 k a1 l2 t410 t416 t422 true l0_0 t407 t412 t419)) = some r := H
    have A53 := Aside0.mk A530
    clear A530
    by_cases c54 : t424 = true
    ·subst c54
     have H1 : (laws_FnExactPutItems.j0 k a1 l2 t410 t416 t422 (t422 != t410) l0_0 t407 t412 t419) = some r := Z7
     clear H
     have H := H1
     clear H1
     have H' := Aside0.mk H
     clear H
     have hnb55 := NB423_398.out
     have hnc55 := NB398_423.out
     have hnb56 := NB423_411.out
     have hnc56 := NB411_423.out
     have hnb57 := NB423_415.out
     have hnc57 := NB415_423.out
     have hcz58_0 : w47.cell? ⟨gb423, 0, none⟩ = some (.slice none 0 0) := (blk_cell BK423.out 0).trans rfl
     have hfz58_0 := blk_frozen BK423.out 0
     have hnb59 := NB411_398.out
     have hnc59 := NB398_411.out
     have hnb60 := NB411_415.out
     have hnc60 := NB415_411.out
     have hcz61_0 : w47.cell? ⟨gb411, 0, none⟩ = some (.slice Ao33 t407.length co33) := (blk_cell BK411.out 0).trans rfl
     have hfz61_0 := blk_frozen BK411.out 0
     go_wp2_with (first | ((with_reducible refine gate_callee (f := 24) rfl ?_); refine goesL_ (some 51) rfl rfl Try.func24 Z0 rfl #[.agg #[.slice Ao48 t419.length co48], .agg #[.slice Ao33 t407.length co33]] rfl Z11 ?_; (with_reducible refine (laws_eqStore.calls k _ _ t419 _ _ t407 true _ ?side1 ?side2 ?side3 ?side4 A53.out).mono ?_); (case side1 => exact (by refine (Kd.R_reads' (e := 47) (base := w.heap.size) (ok := fun k_ => (((True ∧ some k_ ≠ (.slice Ao29 t401.length co29 : Value).ownBlock) ∧ some k_ ≠ (.slice Ao33 t407.length co33 : Value).ownBlock) ∧ some k_ ≠ (.slice Ao39 t412.length co39 : Value).ownBlock)) (n := t419.length) (c := co48) ?_).2.2; exact (by (with_reducible repeat (first | apply Kd.R_alloc | apply Kd.R_drewN | apply Kd.R_drew)); exact (Kd.R_mono (Kd.R_far (p := ⟨gb423, 0, none⟩) (Kd.R_types HO421.out BK423.out (by decide)) (fun _ hk => hk.2) (.slice Ao48 t419.length co48)) (fun _ h_ => h_.1))))); (case side2 => exact (Kd.R_reads' HO421.out).2.1); (case side3 => exact (by refine (Kd.R_reads' (e := 47) (base := w.heap.size) (ok := fun k_ => (((True ∧ some k_ ≠ (.slice Ao29 t401.length co29 : Value).ownBlock) ∧ some k_ ≠ (.slice Ao39 t412.length co39 : Value).ownBlock) ∧ some k_ ≠ (.slice Ao48 t419.length co48 : Value).ownBlock)) (n := t407.length) (c := co33) ?_).2.2; exact (by (with_reducible repeat (first | apply Kd.R_alloc | apply Kd.R_drewN | apply Kd.R_drew)); exact (Kd.R_mono (Kd.R_far (p := ⟨gb423, 0, none⟩) (Kd.R_types HO409.out BK423.out (by decide)) (fun _ hk => hk.2) (.slice Ao48 t419.length co48)) (fun _ h_ => h_.1))))); (case side4 => exact (Kd.R_reads' HO409.out).2.1); rintro e w62 ⟨rfl, hb⟩; refine ⟨_, rfl, ?_⟩; replace HO403 := Z (Kd.R_below (by (with_reducible repeat (first | apply Kd.R_alloc | apply Kd.R_drewN | apply Kd.R_drew)); exact (Kd.R_mono (Kd.R_far (p := ⟨gb423, 0, none⟩) (Kd.R_types HO403.out BK423.out (by decide)) (fun _ hk => hk.2) (.slice Ao48 t419.length co48)) (fun _ h_ => h_.1))) hb); replace HO406 := Z (Kd.R_below (by (with_reducible repeat (first | apply Kd.R_alloc | apply Kd.R_drewN | apply Kd.R_drew)); exact (Kd.R_mono (Kd.R_far (p := ⟨gb423, 0, none⟩) (Kd.R_types HO406.out BK423.out (by decide)) (fun _ hk => hk.2) (.slice Ao48 t419.length co48)) (fun _ h_ => h_.1))) hb); replace HO409 := Z (Kd.R_below (by (with_reducible repeat (first | apply Kd.R_alloc | apply Kd.R_drewN | apply Kd.R_drew)); exact (Kd.R_mono (Kd.R_far (p := ⟨gb423, 0, none⟩) (Kd.R_types HO409.out BK423.out (by decide)) (fun _ hk => hk.2) (.slice Ao48 t419.length co48)) (fun _ h_ => h_.1))) hb); replace HO414 := Z (Kd.R_below (by (with_reducible repeat (first | apply Kd.R_alloc | apply Kd.R_drewN | apply Kd.R_drew)); exact (Kd.R_mono (Kd.R_far (p := ⟨gb423, 0, none⟩) (Kd.R_types HO414.out BK423.out (by decide)) (fun _ hk => hk.2) (.slice Ao48 t419.length co48)) (fun _ h_ => h_.1))) hb); replace HO418 := Z (Kd.R_below (by (with_reducible repeat (first | apply Kd.R_alloc | apply Kd.R_drewN | apply Kd.R_drew)); exact (Kd.R_mono (Kd.R_far (p := ⟨gb423, 0, none⟩) (Kd.R_types HO418.out BK423.out (by decide)) (fun _ hk => hk.2) (.slice Ao48 t419.length co48)) (fun _ h_ => h_.1))) hb); replace HO421 := Z (Kd.R_below (by (with_reducible repeat (first | apply Kd.R_alloc | apply Kd.R_drewN | apply Kd.R_drew)); exact (Kd.R_mono (Kd.R_far (p := ⟨gb423, 0, none⟩) (Kd.R_types HO421.out BK423.out (by decide)) (fun _ hk => hk.2) (.slice Ao48 t419.length co48)) (fun _ h_ => h_.1))) hb); replace BK398 := Z (blk_below (g := gb398) (o := .cells #[.slice A0_0 l0_0.length c0_0] 42 (0, 0)) (Z27 BK398) hb); replace BK411 := Z (blk_below (g := gb411) (o := .cells #[.slice Ao33 t407.length co33] 34 (0, 0)) (Z28 BK411) hb); replace BK415 := Z (blk_below (g := gb415) (o := .cells #[.slice Ao39 t412.length co39] 34 (0, 0)) (Z29 BK415) hb); replace BK423 := Z (blk_below (g := gb423) (o := .cells #[.slice Ao48 t419.length co48] 34 (0, 0)) (Z18 BK423) hb); replace HB := Z (below_step Z42 hb); (try clear hb); (try clear hb2); (try clear hk); (try clear hi)))
     go_meet
     case rel => exact ⟨_, ((t422 != t410)), Z3, H', ⟨Z17⟩, ⟨(Z20 HO418)⟩, ⟨(Z30 HO409)⟩, ⟨(Z30 HO414)⟩, ⟨(Z30 HO421)⟩, ⟨(Z10 BK398)⟩, ⟨(Z10 BK411)⟩, ⟨(Z10 BK415)⟩, ⟨(Z10 BK423)⟩, ⟨Z42⟩⟩
    ·replace c54 := Bool.eq_false_iff.mpr c54
     subst c54
     have H1 : (laws_FnExactPutItems.j0 k a1 l2 t410 t416 t422 true l0_0 t407 t412 t419) = some r := by rw [if_neg (show ¬ (false = true) by decide)] at H; exact H
     clear H
     have H := H1
     clear H1
     have H' := Aside0.mk H
     clear H
     have hnb63 := NB423_398.out
     have hnc63 := NB398_423.out
     have hnb64 := NB423_411.out
     have hnc64 := NB411_423.out
     have hnb65 := NB423_415.out
     have hnc65 := NB415_423.out
     have hcz66_0 : w47.cell? ⟨gb423, 0, none⟩ = some (.slice none 0 0) := (blk_cell BK423.out 0).trans rfl
     have hfz66_0 := blk_frozen BK423.out 0
     have hnb67 := NB411_398.out
     have hnc67 := NB398_411.out
     have hnb68 := NB411_415.out
     have hnc68 := NB415_411.out
     have hcz69_0 : w47.cell? ⟨gb411, 0, none⟩ = some (.slice Ao33 t407.length co33) := (blk_cell BK411.out 0).trans rfl
     have hfz69_0 := blk_frozen BK411.out 0
     go_wp2_with (first | ((with_reducible refine gate_callee (f := 24) rfl ?_); refine goesL_ (some 51) rfl rfl Try.func24 Z0 rfl #[.agg #[.slice Ao48 t419.length co48], .agg #[.slice Ao33 t407.length co33]] rfl Z11 ?_; (with_reducible refine (laws_eqStore.calls k _ _ t419 _ _ t407 false _ ?side1 ?side2 ?side3 ?side4 A53.out).mono ?_); (case side1 => exact (by refine (Kd.R_reads' (e := 47) (base := w.heap.size) (ok := fun k_ => (((True ∧ some k_ ≠ (.slice Ao29 t401.length co29 : Value).ownBlock) ∧ some k_ ≠ (.slice Ao33 t407.length co33 : Value).ownBlock) ∧ some k_ ≠ (.slice Ao39 t412.length co39 : Value).ownBlock)) (n := t419.length) (c := co48) ?_).2.2; exact (by (with_reducible repeat (first | apply Kd.R_alloc | apply Kd.R_drewN | apply Kd.R_drew)); exact (Kd.R_mono (Kd.R_far (p := ⟨gb423, 0, none⟩) (Kd.R_types HO421.out BK423.out (by decide)) (fun _ hk => hk.2) (.slice Ao48 t419.length co48)) (fun _ h_ => h_.1))))); (case side2 => exact (Kd.R_reads' HO421.out).2.1); (case side3 => exact (by refine (Kd.R_reads' (e := 47) (base := w.heap.size) (ok := fun k_ => (((True ∧ some k_ ≠ (.slice Ao29 t401.length co29 : Value).ownBlock) ∧ some k_ ≠ (.slice Ao39 t412.length co39 : Value).ownBlock) ∧ some k_ ≠ (.slice Ao48 t419.length co48 : Value).ownBlock)) (n := t407.length) (c := co33) ?_).2.2; exact (by (with_reducible repeat (first | apply Kd.R_alloc | apply Kd.R_drewN | apply Kd.R_drew)); exact (Kd.R_mono (Kd.R_far (p := ⟨gb423, 0, none⟩) (Kd.R_types HO409.out BK423.out (by decide)) (fun _ hk => hk.2) (.slice Ao48 t419.length co48)) (fun _ h_ => h_.1))))); (case side4 => exact (Kd.R_reads' HO409.out).2.1); rintro e w70 ⟨rfl, hb⟩; refine ⟨_, rfl, ?_⟩; replace HO403 := Z (Kd.R_below (by (with_reducible repeat (first | apply Kd.R_alloc | apply Kd.R_drewN | apply Kd.R_drew)); exact (Kd.R_mono (Kd.R_far (p := ⟨gb423, 0, none⟩) (Kd.R_types HO403.out BK423.out (by decide)) (fun _ hk => hk.2) (.slice Ao48 t419.length co48)) (fun _ h_ => h_.1))) hb); replace HO406 := Z (Kd.R_below (by (with_reducible repeat (first | apply Kd.R_alloc | apply Kd.R_drewN | apply Kd.R_drew)); exact (Kd.R_mono (Kd.R_far (p := ⟨gb423, 0, none⟩) (Kd.R_types HO406.out BK423.out (by decide)) (fun _ hk => hk.2) (.slice Ao48 t419.length co48)) (fun _ h_ => h_.1))) hb); replace HO409 := Z (Kd.R_below (by (with_reducible repeat (first | apply Kd.R_alloc | apply Kd.R_drewN | apply Kd.R_drew)); exact (Kd.R_mono (Kd.R_far (p := ⟨gb423, 0, none⟩) (Kd.R_types HO409.out BK423.out (by decide)) (fun _ hk => hk.2) (.slice Ao48 t419.length co48)) (fun _ h_ => h_.1))) hb); replace HO414 := Z (Kd.R_below (by (with_reducible repeat (first | apply Kd.R_alloc | apply Kd.R_drewN | apply Kd.R_drew)); exact (Kd.R_mono (Kd.R_far (p := ⟨gb423, 0, none⟩) (Kd.R_types HO414.out BK423.out (by decide)) (fun _ hk => hk.2) (.slice Ao48 t419.length co48)) (fun _ h_ => h_.1))) hb); replace HO418 := Z (Kd.R_below (by (with_reducible repeat (first | apply Kd.R_alloc | apply Kd.R_drewN | apply Kd.R_drew)); exact (Kd.R_mono (Kd.R_far (p := ⟨gb423, 0, none⟩) (Kd.R_types HO418.out BK423.out (by decide)) (fun _ hk => hk.2) (.slice Ao48 t419.length co48)) (fun _ h_ => h_.1))) hb); replace HO421 := Z (Kd.R_below (by (with_reducible repeat (first | apply Kd.R_alloc | apply Kd.R_drewN | apply Kd.R_drew)); exact (Kd.R_mono (Kd.R_far (p := ⟨gb423, 0, none⟩) (Kd.R_types HO421.out BK423.out (by decide)) (fun _ hk => hk.2) (.slice Ao48 t419.length co48)) (fun _ h_ => h_.1))) hb); replace BK398 := Z (blk_below (g := gb398) (o := .cells #[.slice A0_0 l0_0.length c0_0] 42 (0, 0)) (Z27 BK398) hb); replace BK411 := Z (blk_below (g := gb411) (o := .cells #[.slice Ao33 t407.length co33] 34 (0, 0)) (Z28 BK411) hb); replace BK415 := Z (blk_below (g := gb415) (o := .cells #[.slice Ao39 t412.length co39] 34 (0, 0)) (Z29 BK415) hb); replace BK423 := Z (blk_below (g := gb423) (o := .cells #[.slice Ao48 t419.length co48] 34 (0, 0)) (Z18 BK423) hb); replace HB := Z (below_step Z42 hb); (try clear hb); (try clear hb2); (try clear hk); (try clear hi)))
     go_meet
     case rel => exact ⟨_, (true), Z3, H', ⟨Z17⟩, ⟨(Z20 HO418)⟩, ⟨(Z30 HO409)⟩, ⟨(Z30 HO414)⟩, ⟨(Z30 HO421)⟩, ⟨(Z10 BK398)⟩, ⟨(Z10 BK411)⟩, ⟨(Z10 BK415)⟩, ⟨(Z10 BK423)⟩, ⟨Z42⟩⟩
   case rest =>
    clear HC21
    try clear c1
    try clear c2
    try clear p2
    try clear c3
    try clear c4
    try clear c5
    try clear c5b0
    try clear c6
    try clear c9
    try clear c10
    try clear c10b0
    try clear c24
    try clear c29
    try clear c31
    try clear c34
    try clear c40
    try clear c41
    try clear c44
    try clear c45
    try clear c46
    try clear c47
    try clear c49
    try clear c50
    try clear c51
    try clear c54
    try clear c55
    try clear c56
    try clear c57
    try clear c59
    try clear c60
    try clear c63
    try clear c64
    try clear c65
    try clear c67
    try clear c68
    try clear hcz12_0
    try clear hcz23_0
    try clear hcz26_0
    try clear hcz35_0
    try clear hcz36_0
    try clear hcz42_0
    try clear hcz44_0
    try clear hcz52_0
    try clear hcz58_0
    try clear hcz61_0
    try clear hcz66_0
    try clear hcz69_0
    try clear hcz7_0
    try clear hfz12_0
    try clear hfz23_0
    try clear hfz26_0
    try clear hfz35_0
    try clear hfz36_0
    try clear hfz42_0
    try clear hfz44_0
    try clear hfz52_0
    try clear hfz58_0
    try clear hfz61_0
    try clear hfz66_0
    try clear hfz69_0
    try clear hfz7_0
    obtain ⟨kq, x57_20, rfl, HA, HJ20, HO_11, HO_412000, HO_416000, HO_424000, BK398, BK411, BK415, BK423, HB⟩ := hcut
    cases kq with
    | zero => exact absurd HA.out (by simp [laws_FnExactPutItems.j0])
    | succ kj20 =>
     have H := HA.out
     clear HA
     simp only [laws_FnExactPutItems.j0] at H
     by_cases c71 : x57_20 = true
     ·subst c71
      have H1 : (some false) = some r := Z7
      clear H
      have H := H1
      clear H1
      obtain rfl := Option.some.inj H
      go_wp2
      go_ret
      exact ⟨Z13, Z42⟩
     ·replace c71 := Bool.eq_false_iff.mpr c71
      subst c71
      have H1 : ((laws_toStore.f kj20 l0_0).bind fun t425 => ((laws_eqStore.f kj20 t412 t425).bind fun t428 => (if t428 = true then ((laws_toItemS.f kj20 l2).bind fun t429 => ((laws_eqItemS.f kj20 t416 t429).bind fun t432 => (if t432 = true then ((laws_markStore.f kj20 t412 1).bind fun bt433 => ((laws_markItemS.f kj20 t416 bt433.1).bind fun bt435 => (if bt435.1 < 0 then (laws_FnExactPutItems.j1 kj20 a1 l2 t410 true l0_0 t407 t419) else ((laws_eqStore.f kj20 t419 t407).bind fun t437 => (if t437 = true then (laws_FnExactPutItems.j1 kj20 a1 l2 t410 (t422 != t410) l0_0 t407 t419) else (laws_FnExactPutItems.j1 kj20 a1 l2 t410 true l0_0 t407 t419)))))) else (some false)))) else (some false)))) = some r := by rw [if_neg (show ¬ (false = true) by decide)] at H; exact H
      clear H
      have H := H1
      clear H1
      replace H := Option.bind_eq_some_iff.mp H
      obtain ⟨t425, A720, H⟩ := H
      replace H : ((laws_eqStore.f kj20 t412 t425).bind fun t428 => (if t428 = true then ((laws_toItemS.f kj20 l2).bind fun t429 => ((laws_eqItemS.f kj20 t416 t429).bind fun t432 => (if t432 = true then ((laws_markStore.f kj20 t412 1).bind fun bt433 => ((laws_markItemS.f kj20 t416 bt433.1).bind fun bt435 => (if bt435.1 < 0 then (laws_FnExactPutItems.j1 kj20 a1 l2 t410 true l0_0 t407 t419) else ((laws_eqStore.f kj20 t419 t407).bind fun t437 => (if t437 = true then (laws_FnExactPutItems.j1 kj20 a1 l2 t410 (t422 != t410) l0_0 t407 t419) else (laws_FnExactPutItems.j1 kj20 a1 l2 t410 true l0_0 t407 t419)))))) else (some false)))) else (some false))) = some r := H
      have A72 := Aside0.mk A720
      clear A720
      replace H := Option.bind_eq_some_iff.mp H
      obtain ⟨t428, A730, H⟩ := H
      replace H : (if t428 = true then ((laws_toItemS.f kj20 l2).bind fun t429 => ((laws_eqItemS.f kj20 t416 t429).bind fun t432 => (if t432 = true then ((laws_markStore.f kj20 t412 1).bind fun bt433 => ((laws_markItemS.f kj20 t416 bt433.1).bind fun bt435 => (if bt435.1 < 0 then (laws_FnExactPutItems.j1 kj20 a1 l2 t410 true l0_0 t407 t419) else ((laws_eqStore.f kj20 t419 t407).bind fun t437 => (if t437 = true then (laws_FnExactPutItems.j1 kj20 a1 l2 t410 (t422 != t410) l0_0 t407 t419) else (laws_FnExactPutItems.j1 kj20 a1 l2 t410 true l0_0 t407 t419)))))) else (some false)))) else (some false)) = some r := H
      have A73 := Aside0.mk A730
      clear A730
      by_cases c74 : t428 = true
      ·subst c74
       have H1 : ((laws_toItemS.f kj20 l2).bind fun t429 => ((laws_eqItemS.f kj20 t416 t429).bind fun t432 => (if t432 = true then ((laws_markStore.f kj20 t412 1).bind fun bt433 => ((laws_markItemS.f kj20 t416 bt433.1).bind fun bt435 => (if bt435.1 < 0 then (laws_FnExactPutItems.j1 kj20 a1 l2 t410 true l0_0 t407 t419) else ((laws_eqStore.f kj20 t419 t407).bind fun t437 => (if t437 = true then (laws_FnExactPutItems.j1 kj20 a1 l2 t410 (t422 != t410) l0_0 t407 t419) else (laws_FnExactPutItems.j1 kj20 a1 l2 t410 true l0_0 t407 t419)))))) else (some false)))) = some r := Z7
       clear H
       have H := H1
       clear H1
       replace H := Option.bind_eq_some_iff.mp H
       obtain ⟨t429, A750, H⟩ := H
       replace H : ((laws_eqItemS.f kj20 t416 t429).bind fun t432 => (if t432 = true then ((laws_markStore.f kj20 t412 1).bind fun bt433 => ((laws_markItemS.f kj20 t416 bt433.1).bind fun bt435 => (if bt435.1 < 0 then (laws_FnExactPutItems.j1 kj20 a1 l2 t410 true l0_0 t407 t419) else ((laws_eqStore.f kj20 t419 t407).bind fun t437 => (if t437 = true then (laws_FnExactPutItems.j1 kj20 a1 l2 t410 (t422 != t410) l0_0 t407 t419) else (laws_FnExactPutItems.j1 kj20 a1 l2 t410 true l0_0 t407 t419)))))) else (some false))) = some r := H
       have A75 := Aside0.mk A750
       clear A750
       replace H := Option.bind_eq_some_iff.mp H
       obtain ⟨t432, A760, H⟩ := H
       replace H : (if t432 = true then ((laws_markStore.f kj20 t412 1).bind fun bt433 => ((laws_markItemS.f kj20 t416 bt433.1).bind fun bt435 => (if bt435.1 < 0 then (laws_FnExactPutItems.j1 kj20 a1 l2 t410 true l0_0 t407 t419) else ((laws_eqStore.f kj20 t419 t407).bind fun t437 => (if t437 = true then (laws_FnExactPutItems.j1 kj20 a1 l2 t410 (t422 != t410) l0_0 t407 t419) else (laws_FnExactPutItems.j1 kj20 a1 l2 t410 true l0_0 t407 t419)))))) else (some false)) = some r := H
       have A76 := Aside0.mk A760
       clear A760
       by_cases c77 : t432 = true
       ·subst c77
        have H1 : ((laws_markStore.f kj20 t412 1).bind fun bt433 => ((laws_markItemS.f kj20 t416 bt433.1).bind fun bt435 => (if bt435.1 < 0 then (laws_FnExactPutItems.j1 kj20 a1 l2 t410 true l0_0 t407 t419) else ((laws_eqStore.f kj20 t419 t407).bind fun t437 => (if t437 = true then (laws_FnExactPutItems.j1 kj20 a1 l2 t410 (t422 != t410) l0_0 t407 t419) else (laws_FnExactPutItems.j1 kj20 a1 l2 t410 true l0_0 t407 t419)))))) = some r := Z7
        clear H
        have H := H1
        clear H1
        replace H := Option.bind_eq_some_iff.mp H
        obtain ⟨⟨t433, t434⟩, A780, H⟩ := H
        replace H : ((laws_markItemS.f kj20 t416 t433).bind fun bt435 => (if bt435.1 < 0 then (laws_FnExactPutItems.j1 kj20 a1 l2 t410 true l0_0 t407 t419) else ((laws_eqStore.f kj20 t419 t407).bind fun t437 => (if t437 = true then (laws_FnExactPutItems.j1 kj20 a1 l2 t410 (t422 != t410) l0_0 t407 t419) else (laws_FnExactPutItems.j1 kj20 a1 l2 t410 true l0_0 t407 t419))))) = some r := H
        have A78 := Aside0.mk A780
        clear A780
        replace H := Option.bind_eq_some_iff.mp H
        obtain ⟨⟨t435, t436⟩, A790, H⟩ := H
        replace H : (if t435 < 0 then (laws_FnExactPutItems.j1 kj20 a1 l2 t410 true l0_0 t407 t419) else ((laws_eqStore.f kj20 t419 t407).bind fun t437 => (if t437 = true then (laws_FnExactPutItems.j1 kj20 a1 l2 t410 (t422 != t410) l0_0 t407 t419) else (laws_FnExactPutItems.j1 kj20 a1 l2 t410 true l0_0 t407 t419)))) = some r := H
        have A79 := Aside0.mk A790
        clear A790
        have HC80 := Aside0.mk H
        clear H
        try go_wp2
        have n0_ := Z (Kd.R_drew HO_11.out)
        have n1_ := Z (Kd.R_drew HO_412000.out)
        have n2_ := Z (Kd.R_drew HO_416000.out)
        have n3_ := Z (Kd.R_drew HO_424000.out)
        have n4_ := Z (blk_drew BK398.out)
        have n5_ := Z (blk_drew BK411.out)
        have n6_ := Z (blk_drew BK415.out)
        have n7_ := Z (blk_drew BK423.out)
        have n8_ := Z (below_drew1 HB.out)
        clear HO_11
        clear HO_412000
        clear HO_416000
        clear HO_424000
        clear BK398
        clear BK411
        clear BK415
        clear BK423
        clear HB
        have HO_11 := n0_
        have HO_412000 := n1_
        have HO_416000 := n2_
        have HO_424000 := n3_
        have BK398 := n4_
        have BK411 := n5_
        have BK415 := n6_
        have BK423 := n7_
        have HB := n8_
        clear n0_ n1_ n2_ n3_ n4_ n5_ n6_ n7_ n8_
        refine start_ (n := 5) (S := fun w' => w'.cell? ⟨gb415, 0, none⟩ = some (.slice Ao39 t412.length co39) ∧ w'.cell? ⟨gb398, 0, none⟩ = some (.slice A0_0 l0_0.length c0_0)) (ds := []) #[false, false, false, false, false] Z0 rfl rfl ⟨(blk_cell BK415.out 0).trans rfl, (blk_cell BK398.out 0).trans rfl⟩ (fun hHeld => ?_)
        generalize wc.drew = w81 at HO_11 HO_412000 HO_416000 HO_424000 BK398 BK411 BK415 BK423 HB hHeld ⊢
        refine take_ (i := 0) (N := some 58) (v := ?_) (a' := ?_) #[true, false, false, false, false] rfl rfl Z0 (fun _ _ _ h => h) (Or.inl ⟨by rfl, ?_⟩) hHeld ?_ ?_
        rotate_left
        ·rintro w' ⟨s0, s1⟩
         go_simp
         with_reducible rfl
        rotate_left
        ·simp only [Act.put, List.setIfInBounds_toArray, List.set_cons_zero, List.set_cons_succ, i64_w, i32_w]
         rfl
        refine take_ (i := 1) (N := some 59) (v := ?_) (a' := ?_) #[true, true, false, false, false] rfl rfl Z0 (fun _ _ _ h => h) (Or.inl ⟨by rfl, ?_⟩) hHeld ?_ ?_
        rotate_left
        ·rintro w' ⟨s0, s1⟩
         go_simp
         with_reducible rfl
        rotate_left
        ·simp only [Act.put, List.setIfInBounds_toArray, List.set_cons_zero, List.set_cons_succ, i64_w, i32_w]
         rfl
        refine one_ (i := 2) (N := some 60) #[true, true, true, false, false] rfl rfl Z0 (by decide) (fun K hK => ?_)
        refine goes_ Try.func31 Z0 rfl #[.agg #[.slice A0_0 l0_0.length c0_0]] (by rfl) rfl rfl Z11 ?_
        with_reducible refine (laws_toStore.calls kj20 _ _ l0_0 t425 _ ?side1 ?side2 A72.out).mono ?_
        (case side1 => exact (Z12 HR0_0))
        (case side2 => exact HC0_0.out)
        rintro e w82 ⟨v426, rfl, ho0, hb⟩
        refine ⟨_, rfl, ?_⟩
        have n0_ := Z (Kd.R_below (Z14 HO_11) hb)
        have n1_ := Z (Kd.R_elder' (Z14 HO_412000) (Kd.R_base ho0) hb)
        have n2_ := Z (Kd.R_elder' (Z14 HO_416000) (Kd.R_base ho0) hb)
        have n3_ := Z (Kd.R_elder' (Z14 HO_424000) (Kd.R_base ho0) hb)
        have n4_ := Z (Kd.R_lower (Kd.R_new' (Kd.R_new' (Kd.R_new' ho0 (Kd.R_lt (Z14 HO_412000))) (Kd.R_lt (Z14 HO_416000))) (Kd.R_lt (Z14 HO_424000))) (below_size Z42))
        have n5_ := Z (blk_below (g := gb398) (o := .cells #[.slice A0_0 l0_0.length c0_0] 42 (0, 0)) (Z10 BK398) hb)
        have n6_ := Z (blk_below (g := gb411) (o := .cells #[.slice Ao33 t407.length co33] 34 (0, 0)) (Z10 BK411) hb)
        have n7_ := Z (blk_below (g := gb415) (o := .cells #[.slice Ao39 t412.length co39] 34 (0, 0)) (Z10 BK415) hb)
        have n8_ := Z (blk_below (g := gb423) (o := .cells #[.slice Ao48 t419.length co48] 34 (0, 0)) (Z10 BK423) hb)
        have n9_ := Z (below_step Z42 hb)
        clear HO_11
        clear HO_412000
        clear HO_416000
        clear HO_424000
        clear BK398
        clear BK411
        clear BK415
        clear BK423
        clear HB
        have HO_11 := n0_
        have HO_412000 := n1_
        have HO_416000 := n2_
        have HO_424000 := n3_
        have HO427 := n4_
        have BK398 := n5_
        have BK411 := n6_
        have BK415 := n7_
        have BK423 := n8_
        have HB := n9_
        clear n0_ n1_ n2_ n3_ n4_ n5_ n6_ n7_ n8_ n9_
        (try clear hb)
        (try clear hb2)
        (try clear hk)
        (try clear hi)
        (try clear ho0)
        obtain ⟨Ao83, co83, eo83⟩ := Kd.R_slice HO427.out
        (first | subst eo83 | (injection eo83 with f1_ f2_ f3_; have f4_ := f1_.symm; have f5_ := f3_.symm; clear f1_ f2_ f3_; subst f4_; subst f5_))
        refine hK.out _ _ ⟨(blk_cell BK415.out 0).trans rfl, (blk_cell BK398.out 0).trans rfl⟩ (fun hHeld => ?_)
        clear hK K
        refine norm_ (a' := ?_) ?_ ?_
        rotate_left
        ·show Act.put _ (some 60) _ = _
         simp only [Act.put, List.setIfInBounds_toArray, List.set_cons_zero, List.set_cons_succ, i64_w, i32_w]
         rfl
        refine one_ (i := 3) (N := some 61) #[true, true, true, true, false] rfl rfl Z0 (by decide) (fun K hK => ?_)
        refine goes_ Try.func24 Z0 rfl #[.agg #[.slice Ao39 t412.length co39], .agg #[.slice Ao83 t425.length co83]] (by rfl) rfl rfl Z11 ?_
        with_reducible refine (laws_eqStore.calls kj20 _ _ t412 _ _ t425 true _ ?side1 ?side2 ?side3 ?side4 A73.out).mono ?_
        (case side1 => exact (Z21 HO_416000))
        (case side2 => exact (Kd.R_reads' HO_416000.out).2.1)
        (case side3 => exact (Z21 HO427))
        (case side4 => exact (Kd.R_reads' HO427.out).2.1)
        rintro e w84 ⟨rfl, hb⟩
        refine ⟨_, rfl, ?_⟩
        have n0_ := Z (Kd.R_below (Z14 HO_11) hb)
        have n1_ := Z (Kd.R_below (Z14 HO_412000) hb)
        have n2_ := Z (Kd.R_below (Z14 HO_416000) hb)
        have n3_ := Z (Kd.R_below (Z14 HO_424000) hb)
        have n4_ := Z (Kd.R_below (Z14 HO427) hb)
        have n5_ := Z (blk_below (g := gb398) (o := .cells #[.slice A0_0 l0_0.length c0_0] 42 (0, 0)) (Z10 BK398) hb)
        have n6_ := Z (blk_below (g := gb411) (o := .cells #[.slice Ao33 t407.length co33] 34 (0, 0)) (Z10 BK411) hb)
        have n7_ := Z (blk_below (g := gb415) (o := .cells #[.slice Ao39 t412.length co39] 34 (0, 0)) (Z10 BK415) hb)
        have n8_ := Z (blk_below (g := gb423) (o := .cells #[.slice Ao48 t419.length co48] 34 (0, 0)) (Z10 BK423) hb)
        have n9_ := Z (below_step Z42 hb)
        clear HO_11
        clear HO_412000
        clear HO_416000
        clear HO_424000
        clear HO427
        clear BK398
        clear BK411
        clear BK415
        clear BK423
        clear HB
        have HO_11 := n0_
        have HO_412000 := n1_
        have HO_416000 := n2_
        have HO_424000 := n3_
        have HO427 := n4_
        have BK398 := n5_
        have BK411 := n6_
        have BK415 := n7_
        have BK423 := n8_
        have HB := n9_
        clear n0_ n1_ n2_ n3_ n4_ n5_ n6_ n7_ n8_ n9_
        (try clear hb)
        (try clear hb2)
        (try clear hk)
        (try clear hi)
        refine hK.out _ _ ⟨(blk_cell BK415.out 0).trans rfl, (blk_cell BK398.out 0).trans rfl⟩ (fun hHeld => ?_)
        clear hK K
        refine norm_ (a' := ?_) ?_ ?_
        rotate_left
        ·show Act.put _ (some 61) _ = _
         simp only [Act.put, List.setIfInBounds_toArray, List.set_cons_zero, List.set_cons_succ, i64_w, i32_w]
         rfl
        refine pure_ (i := 4) (N := some 62) (v := ?_) (a' := ?_) #[true, true, true, true, true] rfl rfl Z0 (fun _ _ _ h => h) (Or.inl ⟨by rfl, ?_⟩) ?_ ?_
        rotate_left
        ·intro w'
         go_simp
         with_reducible rfl
        rotate_left
        ·simp only [Act.put, List.setIfInBounds_toArray, List.set_cons_zero, List.set_cons_succ, i64_w, i32_w]
         rfl
        refine done_ Z0 ?_
        go_upto_region 21 with (first | ((with_reducible refine gate_callee (f := 46) rfl ?_); refine goesL_ (some 65) rfl rfl Try.func46 Z0 rfl #[.slice A2 l2.length c2] rfl Z11 ?_; (with_reducible refine (laws_toItemS.calls kj20 _ _ l2 t429 _ ?side1 ?side2 A75.out).mono ?_); (case side1 => exact (Z12 HR2)); (case side2 => exact HC2.out); rintro e w85 ⟨v430, rfl, ho0, hb⟩; refine ⟨_, rfl, ?_⟩; replace HO_412000 := Z (Kd.R_below (Z14 HO_412000) hb); replace HO_416000 := Z (Kd.R_below (Z14 HO_416000) hb); replace HO_424000 := Z (Kd.R_below (Z14 HO_424000) hb); replace HO427 := Z (Kd.R_below (Z14 HO427) hb); have HO431 := Z (Kd.R_lower (Kd.R_new' ho0 (Kd.R_lt (Z14 HO_11))) (below_size Z42)); replace HO_11 := Z (Kd.R_elder' (Z14 HO_11) (Kd.R_base ho0) hb); replace BK398 := Z (blk_below (g := gb398) (o := .cells #[.slice A0_0 l0_0.length c0_0] 42 (0, 0)) (Z10 BK398) hb); replace BK411 := Z (blk_below (g := gb411) (o := .cells #[.slice Ao33 t407.length co33] 34 (0, 0)) (Z10 BK411) hb); replace BK415 := Z (blk_below (g := gb415) (o := .cells #[.slice Ao39 t412.length co39] 34 (0, 0)) (Z10 BK415) hb); replace BK423 := Z (blk_below (g := gb423) (o := .cells #[.slice Ao48 t419.length co48] 34 (0, 0)) (Z10 BK423) hb); replace HB := Z (below_step Z42 hb); (try clear hb); (try clear hb2); (try clear hk); (try clear hi); (try clear ho0); obtain ⟨Ao86, co86, eo86⟩ := Kd.R_slice HO431.out; subst eo86) | ((with_reducible refine gate_callee (f := 48) rfl ?_); refine goesL_ (some 66) rfl rfl Try.func48 Z0 rfl #[.slice Ao45 t416.length co45, .slice Ao86 t429.length co86] rfl Z11 ?_; (with_reducible refine (laws_eqItemS.calls kj20 _ _ t416 _ _ t429 true _ ?side1 ?side2 ?side3 ?side4 A76.out).mono ?_); (case side1 => exact (Z21 HO_11)); (case side2 => exact (Kd.R_reads' HO_11.out).2.1); (case side3 => exact (Z21 HO431)); (case side4 => exact (Kd.R_reads' HO431.out).2.1); rintro e w87 ⟨rfl, hb⟩; refine ⟨_, rfl, ?_⟩; replace HO_11 := Z (Kd.R_below (Z14 HO_11) hb); replace HO_412000 := Z (Kd.R_below (Z14 HO_412000) hb); replace HO_416000 := Z (Kd.R_below (Z14 HO_416000) hb); replace HO_424000 := Z (Kd.R_below (Z14 HO_424000) hb); replace HO427 := Z (Kd.R_below (Z14 HO427) hb); replace HO431 := Z (Kd.R_below (Z14 HO431) hb); replace BK398 := Z (blk_below (g := gb398) (o := .cells #[.slice A0_0 l0_0.length c0_0] 42 (0, 0)) (Z10 BK398) hb); replace BK411 := Z (blk_below (g := gb411) (o := .cells #[.slice Ao33 t407.length co33] 34 (0, 0)) (Z10 BK411) hb); replace BK415 := Z (blk_below (g := gb415) (o := .cells #[.slice Ao39 t412.length co39] 34 (0, 0)) (Z10 BK415) hb); replace BK423 := Z (blk_below (g := gb423) (o := .cells #[.slice Ao48 t419.length co48] 34 (0, 0)) (Z10 BK423) hb); replace HB := Z (below_step Z42 hb); (try clear hb); (try clear hb2); (try clear hk); (try clear hi); have hnb88 := NB415_398.out; have hnc88 := NB398_415.out; have hnb89 := NB415_411.out; have hnc89 := NB411_415.out; have hnb90 := NB415_423.out; have hnc90 := NB423_415.out; have hcz91_0 : w87.cell? ⟨gb415, 0, none⟩ = some (.slice Ao39 t412.length co39) := (blk_cell BK415.out 0).trans rfl; have hfz91_0 := blk_frozen BK415.out 0) | ((with_reducible refine gate_callee (f := 27) rfl ?_); refine goesL_ (some 70) rfl rfl Try.func27 Z0 rfl #[.agg #[.slice Ao39 t412.length co39], .int .i64 1] rfl Z11 ?_; (with_reducible refine (laws_markStore.calls kj20 (fun k_ => some k_ = (.slice Ao39 t412.length co39 : Value).ownBlock) (.slice Ao39 t412.length co39) t412 1 t433 t434 w _ ?side1 ?side2 A78.out).mono ?_); (case side1 => exact Z42); (case side2 => exact Kd.R_tight rfl HO_416000.out); rintro e w92 ⟨rfl, hy0, hb, hkp⟩; refine ⟨_, rfl, ?_⟩; replace HO_11 := Z (Kd.R_mono (ok' := fun k_ => some k_ ≠ (.slice Ao86 t429.length co86 : Value).ownBlock) (Kd.R_keptB ((Kd.R_apart' HO_11.out (Kd.R_typed HO_416000.out) (by decide))) hkp (fun k_ hk_ hs_ => (hk_.2) hs_)) (fun k_ hk_ => hk_.1.1.2)); replace HO_412000 := Z (Kd.R_mono (ok' := fun k_ => some k_ ≠ (.slice Ao39 t412.length co39 : Value).ownBlock ∧ some k_ ≠ (.slice Ao48 t419.length co48 : Value).ownBlock ∧ some k_ ≠ (.slice Ao83 t425.length co83 : Value).ownBlock) (Kd.R_keptB (HO_412000.out) hkp (fun k_ hk_ hs_ => (hk_.1.1) hs_)) (fun k_ hk_ => ⟨hk_.1.1.1, hk_.1.1.2, hk_.1.2⟩)); replace HO_424000 := Z (Kd.R_mono (ok' := fun k_ => some k_ ≠ (.slice Ao33 t407.length co33 : Value).ownBlock ∧ some k_ ≠ (.slice Ao39 t412.length co39 : Value).ownBlock ∧ some k_ ≠ (.slice Ao83 t425.length co83 : Value).ownBlock) (Kd.R_keptB (HO_424000.out) hkp (fun k_ hk_ hs_ => (hk_.1.2) hs_)) (fun k_ hk_ => ⟨hk_.1.1.1, hk_.1.1.2, hk_.1.2⟩)); replace BK398 := Z (blk_kept (g := gb398) (o := .cells #[.slice A0_0 l0_0.length c0_0] 42 (0, 0)) (Z10 BK398) hkp (fun hs_ => (fun e_ => (Kd.R_ne HO_416000.out BK398.out (by decide)) e_) hs_)); replace BK411 := Z (blk_kept (g := gb411) (o := .cells #[.slice Ao33 t407.length co33] 34 (0, 0)) (Z10 BK411) hkp (fun hs_ => (fun e_ => (Kd.R_ne HO_416000.out BK411.out (by decide)) e_) hs_)); replace BK415 := Z (blk_kept (g := gb415) (o := .cells #[.slice Ao39 t412.length co39] 34 (0, 0)) (Z10 BK415) hkp (fun hs_ => (fun e_ => (Kd.R_ne HO_416000.out BK415.out (by decide)) e_) hs_)); replace BK423 := Z (blk_kept (g := gb423) (o := .cells #[.slice Ao48 t419.length co48] 34 (0, 0)) (Z10 BK423) hkp (fun hs_ => (fun e_ => (Kd.R_ne HO_416000.out BK423.out (by decide)) e_) hs_)); replace HO427 := Z (Kd.R_mono (ok' := fun k_ => some k_ ≠ (.slice Ao33 t407.length co33 : Value).ownBlock ∧ some k_ ≠ (.slice Ao39 t412.length co39 : Value).ownBlock ∧ some k_ ≠ (.slice Ao48 t419.length co48 : Value).ownBlock) (Kd.R_keptB (HO427.out) hkp (fun k_ hk_ hs_ => (hk_.1.2) hs_)) (fun k_ hk_ => ⟨hk_.1.1.1.2, hk_.1.1.2, hk_.1.2⟩)); replace HO431 := Z (Kd.R_mono (ok' := fun k_ => some k_ ≠ (.slice Ao45 t416.length co45 : Value).ownBlock) (Kd.R_keptB ((Kd.R_apart' HO431.out (Kd.R_typed HO_416000.out) (by decide))) hkp (fun k_ hk_ hs_ => (hk_.2) hs_)) (fun k_ hk_ => hk_.1.1.2)); replace HO_416000 := Z (Kd.R_reok rfl hy0 (fun k_ e_ => HO_416000.out.1 k_ e_)); replace HB := Z (hb); (try clear hb); (try clear hkp); (try clear hy0)) | ((with_reducible refine gate_callee (f := 49) rfl ?_); refine goesL_ (some 73) rfl rfl Try.func49 Z0 rfl #[.slice Ao45 t416.length co45, .int .i64 t433] rfl Z11 ?_; (with_reducible refine (laws_markItemS.calls kj20 (fun k_ => some k_ = (.slice Ao45 t416.length co45 : Value).ownBlock) (.slice Ao45 t416.length co45) t416 t433 t435 t436 w _ ?side1 ?side2 A79.out).mono ?_); (case side1 => exact Z42); (case side2 => exact Kd.R_tight rfl HO_11.out); rintro e w93 ⟨rfl, hy0, hb, hkp⟩; refine ⟨_, rfl, ?_⟩; replace HO_412000 := Z (Kd.R_mono (ok' := fun k_ => some k_ ≠ (.slice Ao39 t412.length co39 : Value).ownBlock ∧ some k_ ≠ (.slice Ao48 t419.length co48 : Value).ownBlock ∧ some k_ ≠ (.slice Ao83 t425.length co83 : Value).ownBlock) (Kd.R_keptB ((Kd.R_apart' HO_412000.out (Kd.R_typed HO_11.out) (by decide))) hkp (fun k_ hk_ hs_ => (hk_.2) hs_)) (fun k_ hk_ => ⟨hk_.1.1.1, hk_.1.1.2.1, hk_.1.1.2.2⟩)); replace HO_416000 := Z (Kd.R_mono (ok' := fun k_ => some k_ ≠ (.slice Ao33 t407.length co33 : Value).ownBlock ∧ some k_ ≠ (.slice Ao48 t419.length co48 : Value).ownBlock ∧ some k_ ≠ (.slice Ao83 t425.length co83 : Value).ownBlock) (Kd.R_keptB ((Kd.R_apart' HO_416000.out (Kd.R_typed HO_11.out) (by decide))) hkp (fun k_ hk_ hs_ => (hk_.2) hs_)) (fun k_ hk_ => ⟨hk_.1.1.1.1, hk_.1.1.1.2, hk_.1.1.2⟩)); replace HO_424000 := Z (Kd.R_mono (ok' := fun k_ => some k_ ≠ (.slice Ao33 t407.length co33 : Value).ownBlock ∧ some k_ ≠ (.slice Ao39 t412.length co39 : Value).ownBlock ∧ some k_ ≠ (.slice Ao83 t425.length co83 : Value).ownBlock) (Kd.R_keptB ((Kd.R_apart' HO_424000.out (Kd.R_typed HO_11.out) (by decide))) hkp (fun k_ hk_ hs_ => (hk_.2) hs_)) (fun k_ hk_ => ⟨hk_.1.1.1, hk_.1.1.2.1, hk_.1.1.2.2⟩)); replace BK398 := Z (blk_kept (g := gb398) (o := .cells #[.slice A0_0 l0_0.length c0_0] 42 (0, 0)) (Z10 BK398) hkp (fun hs_ => (fun e_ => (Kd.R_ne HO_11.out BK398.out (by decide)) e_) hs_)); replace BK411 := Z (blk_kept (g := gb411) (o := .cells #[.slice Ao33 t407.length co33] 34 (0, 0)) (Z10 BK411) hkp (fun hs_ => (fun e_ => (Kd.R_ne HO_11.out BK411.out (by decide)) e_) hs_)); replace BK415 := Z (blk_kept (g := gb415) (o := .cells #[.slice Ao39 t412.length co39] 34 (0, 0)) (Z10 BK415) hkp (fun hs_ => (fun e_ => (Kd.R_ne HO_11.out BK415.out (by decide)) e_) hs_)); replace BK423 := Z (blk_kept (g := gb423) (o := .cells #[.slice Ao48 t419.length co48] 34 (0, 0)) (Z10 BK423) hkp (fun hs_ => (fun e_ => (Kd.R_ne HO_11.out BK423.out (by decide)) e_) hs_)); replace HO427 := Z (Kd.R_mono (ok' := fun k_ => some k_ ≠ (.slice Ao33 t407.length co33 : Value).ownBlock ∧ some k_ ≠ (.slice Ao39 t412.length co39 : Value).ownBlock ∧ some k_ ≠ (.slice Ao48 t419.length co48 : Value).ownBlock) (Kd.R_keptB ((Kd.R_apart' HO427.out (Kd.R_typed HO_11.out) (by decide))) hkp (fun k_ hk_ hs_ => (hk_.2) hs_)) (fun k_ hk_ => ⟨hk_.1.1.1, hk_.1.1.2.1, hk_.1.1.2.2⟩)); replace HO_11 := Z (Kd.R_reok rfl hy0 (fun k_ e_ => HO_11.out.1 k_ e_)); replace HO431 := Z (Kd.R_mono (ok' := fun k_ => some k_ ≠ (.slice Ao45 t416.length co45 : Value).ownBlock) (Kd.R_keptB (HO431.out) hkp (fun k_ hk_ hs_ => (hk_) hs_)) (fun k_ hk_ => hk_.1)); replace HB := Z (hb); (try clear hb); (try clear hkp); (try clear hy0)))
        (try simp only [Act.put, List.setIfInBounds_toArray, List.set_cons_zero, List.set_cons_succ])
        go_cut [86] (fun v86 wc => ∃ (kq : Nat) (x86_79 : Bool), v86 = .bool x86_79 ∧ Aside0 (laws_FnExactPutItems.j1 kq a1 l2 t410 x86_79 l0_0 t407 t419 = some r) ∧ Aside0 (kq ≤ kj20) ∧ Aside0 (Kd.R (Kd.int .u32) 47 wc w.heap.size (fun k_ => some k_ ≠ ((.slice Ao39 t412.length co39) : Value).ownBlock ∧ some k_ ≠ ((.slice Ao48 t419.length co48) : Value).ownBlock) (.slice Ao33 t407.length co33) t407) ∧ Aside0 (Kd.R (Kd.int .u32) 47 wc w.heap.size (fun k_ => some k_ ≠ ((.slice Ao33 t407.length co33) : Value).ownBlock ∧ some k_ ≠ ((.slice Ao48 t419.length co48) : Value).ownBlock) (.slice Ao39 t412.length co39) t434) ∧ Aside0 (Kd.R (Kd.int .u32) 47 wc w.heap.size (fun k_ => some k_ ≠ ((.slice Ao33 t407.length co33) : Value).ownBlock ∧ some k_ ≠ ((.slice Ao39 t412.length co39) : Value).ownBlock) (.slice Ao48 t419.length co48) t419) ∧ Aside0 (wc.heap[gb398]? = some (.cells #[(.slice A0_0 l0_0.length c0_0)] 42 (0, 0))) ∧ Aside0 (wc.heap[gb411]? = some (.cells #[(.slice Ao33 t407.length co33)] 34 (0, 0))) ∧ Aside0 (wc.heap[gb415]? = some (.cells #[(.slice Ao39 t412.length co39)] 34 (0, 0))) ∧ Aside0 (wc.heap[gb423]? = some (.cells #[(.slice Ao48 t419.length co48)] 34 (0, 0))) ∧ Aside0 (Below w.heap.size w wc))
        case first =>
         have H := HC80.out
         clear HC80
         by_cases c94 : t435 < 0
         ·rw [if_pos c94] at H
          have c94b0 : decide (t435 < 0) = true := decide_eq_true c94
          clear c94
          (first | rw [c94b0] | (simp only [i64_w, i32_w]; rw [c94b0]) | skip)
          have H' := Aside0.mk H
          clear H
          go_wp2
          go_meet
          case rel => exact ⟨_, (true), Z3, H', ⟨Z31⟩, ⟨(Z32 HO_412000)⟩, ⟨(Z32 HO_416000)⟩, ⟨(Z32 HO_424000)⟩, ⟨(Z10 BK398)⟩, ⟨(Z10 BK411)⟩, ⟨(Z10 BK415)⟩, ⟨(Z10 BK423)⟩, ⟨Z42⟩⟩
         ·rw [if_neg c94] at H
          have c94b0 : decide (t435 < 0) = false := decide_eq_false c94
          clear c94
          (first | rw [c94b0] | (simp only [i64_w, i32_w]; rw [c94b0]) | skip)
          replace H := Option.bind_eq_some_iff.mp H
          obtain ⟨t437, A950, H⟩ := H
          replace H : (if t437 = true then (laws_FnExactPutItems.j1 kj20 a1 l2 t410 (t422 != t410) l0_0 t407 t419) else (laws_FnExactPutItems.j1 kj20 a1 l2 t410 true l0_0 t407 t419)) = some r := H
          have A95 := Aside0.mk A950
          clear A950
          by_cases c96 : t437 = true
          ·subst c96
           have H1 : (laws_FnExactPutItems.j1 kj20 a1 l2 t410 (t422 != t410) l0_0 t407 t419) = some r := Z7
           clear H
           have H := H1
           clear H1
           have H' := Aside0.mk H
           clear H
           have hnb97 := NB423_398.out
           have hnc97 := NB398_423.out
           have hnb98 := NB423_411.out
           have hnc98 := NB411_423.out
           have hnb99 := NB423_415.out
           have hnc99 := NB415_423.out
           have hcz100_0 : w93.cell? ⟨gb423, 0, none⟩ = some (.slice Ao48 t419.length co48) := (blk_cell BK423.out 0).trans rfl
           have hfz100_0 := blk_frozen BK423.out 0
           have hnb101 := NB411_398.out
           have hnc101 := NB398_411.out
           have hnb102 := NB411_415.out
           have hnc102 := NB415_411.out
           have hcz103_0 : w93.cell? ⟨gb411, 0, none⟩ = some (.slice Ao33 t407.length co33) := (blk_cell BK411.out 0).trans rfl
           have hfz103_0 := blk_frozen BK411.out 0
           go_wp2_with (first | (go_at_call 24; (with_reducible refine (laws_eqStore.calls kj20 _ _ t419 _ _ t407 true _ ?side1 ?side2 ?side3 ?side4 A95.out).mono ?_); (case side1 => exact (Z21 HO_424000)); (case side2 => exact (Kd.R_reads' HO_424000.out).2.1); (case side3 => exact (Z21 HO_412000)); (case side4 => exact (Kd.R_reads' HO_412000.out).2.1); rintro e w104 ⟨rfl, hb⟩; replace HO_11 := Z (Kd.R_below (Z14 HO_11) hb); replace HO_412000 := Z (Kd.R_below (Z14 HO_412000) hb); replace HO_416000 := Z (Kd.R_below (Z14 HO_416000) hb); replace HO_424000 := Z (Kd.R_below (Z14 HO_424000) hb); replace HO427 := Z (Kd.R_below (Z14 HO427) hb); replace HO431 := Z (Kd.R_below (Z14 HO431) hb); replace BK398 := Z (blk_below (g := gb398) (o := .cells #[.slice A0_0 l0_0.length c0_0] 42 (0, 0)) (Z10 BK398) hb); replace BK411 := Z (blk_below (g := gb411) (o := .cells #[.slice Ao33 t407.length co33] 34 (0, 0)) (Z10 BK411) hb); replace BK415 := Z (blk_below (g := gb415) (o := .cells #[.slice Ao39 t412.length co39] 34 (0, 0)) (Z10 BK415) hb); replace BK423 := Z (blk_below (g := gb423) (o := .cells #[.slice Ao48 t419.length co48] 34 (0, 0)) (Z10 BK423) hb); replace HB := Z (below_step Z42 hb); (try clear hb); (try clear hb2); (try clear hk); (try clear hi)))
           go_meet
           case rel => exact ⟨_, ((t422 != t410)), Z3, H', ⟨Z31⟩, ⟨(Z32 HO_412000)⟩, ⟨(Z32 HO_416000)⟩, ⟨(Z32 HO_424000)⟩, ⟨(Z10 BK398)⟩, ⟨(Z10 BK411)⟩, ⟨(Z10 BK415)⟩, ⟨(Z10 BK423)⟩, ⟨Z42⟩⟩
          ·replace c96 := Bool.eq_false_iff.mpr c96
           subst c96
           have H1 : (laws_FnExactPutItems.j1 kj20 a1 l2 t410 true l0_0 t407 t419) = some r := by rw [if_neg (show ¬ (false = true) by decide)] at H; exact H
           clear H
           have H := H1
           clear H1
           have H' := Aside0.mk H
           clear H
           have hnb105 := NB423_398.out
           have hnc105 := NB398_423.out
           have hnb106 := NB423_411.out
           have hnc106 := NB411_423.out
           have hnb107 := NB423_415.out
           have hnc107 := NB415_423.out
           have hcz108_0 : w93.cell? ⟨gb423, 0, none⟩ = some (.slice Ao48 t419.length co48) := (blk_cell BK423.out 0).trans rfl
           have hfz108_0 := blk_frozen BK423.out 0
           have hnb109 := NB411_398.out
           have hnc109 := NB398_411.out
           have hnb110 := NB411_415.out
           have hnc110 := NB415_411.out
           have hcz111_0 : w93.cell? ⟨gb411, 0, none⟩ = some (.slice Ao33 t407.length co33) := (blk_cell BK411.out 0).trans rfl
           have hfz111_0 := blk_frozen BK411.out 0
           go_wp2_with (first | (go_at_call 24; (with_reducible refine (laws_eqStore.calls kj20 _ _ t419 _ _ t407 false _ ?side1 ?side2 ?side3 ?side4 A95.out).mono ?_); (case side1 => exact (Z21 HO_424000)); (case side2 => exact (Kd.R_reads' HO_424000.out).2.1); (case side3 => exact (Z21 HO_412000)); (case side4 => exact (Kd.R_reads' HO_412000.out).2.1); rintro e w112 ⟨rfl, hb⟩; replace HO_11 := Z (Kd.R_below (Z14 HO_11) hb); replace HO_412000 := Z (Kd.R_below (Z14 HO_412000) hb); replace HO_416000 := Z (Kd.R_below (Z14 HO_416000) hb); replace HO_424000 := Z (Kd.R_below (Z14 HO_424000) hb); replace HO427 := Z (Kd.R_below (Z14 HO427) hb); replace HO431 := Z (Kd.R_below (Z14 HO431) hb); replace BK398 := Z (blk_below (g := gb398) (o := .cells #[.slice A0_0 l0_0.length c0_0] 42 (0, 0)) (Z10 BK398) hb); replace BK411 := Z (blk_below (g := gb411) (o := .cells #[.slice Ao33 t407.length co33] 34 (0, 0)) (Z10 BK411) hb); replace BK415 := Z (blk_below (g := gb415) (o := .cells #[.slice Ao39 t412.length co39] 34 (0, 0)) (Z10 BK415) hb); replace BK423 := Z (blk_below (g := gb423) (o := .cells #[.slice Ao48 t419.length co48] 34 (0, 0)) (Z10 BK423) hb); replace HB := Z (below_step Z42 hb); (try clear hb); (try clear hb2); (try clear hk); (try clear hi)))
           go_meet
           case rel => exact ⟨_, (true), Z3, H', ⟨Z31⟩, ⟨(Z32 HO_412000)⟩, ⟨(Z32 HO_416000)⟩, ⟨(Z32 HO_424000)⟩, ⟨(Z10 BK398)⟩, ⟨(Z10 BK411)⟩, ⟨(Z10 BK415)⟩, ⟨(Z10 BK423)⟩, ⟨Z42⟩⟩
        case rest =>
         clear HC80
         try clear c1
         try clear c2
         try clear p2
         try clear c3
         try clear c4
         try clear c5
         try clear c5b0
         try clear c6
         try clear c7
         try clear c8
         try clear c9
         try clear c10
         try clear c10b0
         try clear c11
         try clear c24
         try clear c27
         try clear c29
         try clear c31
         try clear c34
         try clear c40
         try clear c41
         try clear c44
         try clear c45
         try clear c46
         try clear c47
         try clear c48
         try clear c49
         try clear c50
         try clear c51
         try clear c54
         try clear c55
         try clear c56
         try clear c57
         try clear c59
         try clear c60
         try clear c63
         try clear c64
         try clear c65
         try clear c67
         try clear c68
         try clear c71
         try clear c74
         try clear c77
         try clear c88
         try clear c89
         try clear c90
         try clear c94
         try clear c94b0
         try clear c96
         try clear c97
         try clear c98
         try clear c99
         try clear c101
         try clear c102
         try clear c105
         try clear c106
         try clear c107
         try clear c109
         try clear c110
         try clear hcz100_0
         try clear hcz103_0
         try clear hcz108_0
         try clear hcz111_0
         try clear hcz12_0
         try clear hcz23_0
         try clear hcz26_0
         try clear hcz35_0
         try clear hcz36_0
         try clear hcz42_0
         try clear hcz44_0
         try clear hcz52_0
         try clear hcz58_0
         try clear hcz61_0
         try clear hcz66_0
         try clear hcz69_0
         try clear hcz7_0
         try clear hcz91_0
         try clear hfz100_0
         try clear hfz103_0
         try clear hfz108_0
         try clear hfz111_0
         try clear hfz12_0
         try clear hfz23_0
         try clear hfz26_0
         try clear hfz35_0
         try clear hfz36_0
         try clear hfz42_0
         try clear hfz44_0
         try clear hfz52_0
         try clear hfz58_0
         try clear hfz61_0
         try clear hfz66_0
         try clear hfz69_0
         try clear hfz7_0
         try clear hfz91_0
         try clear p2
         obtain ⟨kq, x86_79, rfl, HA, HJ79, HO_412000, HO_416000, HO_424000, BK398, BK411, BK415, BK423, HB⟩ := hcut
         have hl416000_79 := (Kd.R_reads' HO_416000.out).1
         rw [hl416000_79] at HO_416000
         (try simp only [hl416000_79])
         (try simp only [hl416000_79] at BK398)
         (try simp only [hl416000_79] at BK411)
         (try simp only [hl416000_79] at BK415)
         (try simp only [hl416000_79] at BK423)
         (try simp only [hl416000_79] at HO_412000)
         (try simp only [hl416000_79] at HO_424000)
         cases kq with
         | zero => exact absurd HA.out (by simp [laws_FnExactPutItems.j1])
         | succ kj79 =>
          have H := HA.out
          clear HA
          simp only [laws_FnExactPutItems.j1] at H
          by_cases c113 : x86_79 = true
          ·subst c113
           have H1 : (some false) = some r := Z7
           clear H
           have H := H1
           clear H1
           obtain rfl := Option.some.inj H
           go_wp2
           go_ret
           exact ⟨Z13, Z42⟩
          ·replace c113 := Bool.eq_false_iff.mpr c113
           subst c113
           have H1 : ((laws_markStore.f kj79 t419 1).bind fun bt438 => ((laws_heldStore.f kj79 bt438.2 1).bind fun t440 => (if t440 < 0 then (some false) else (if t440 = bt438.1 then ((laws_toStore.f kj79 l0_0).bind fun t441 => ((laws_toItemS.f kj79 l2).bind fun t444 => ((impl_PutItems.f kj79 t441 a1 t444).bind fun bt447 => ((laws_eqStore.f kj79 bt447.1 t407).bind fun t452 => (if t452 = true then (laws_FnExactPutItems.j2 kj79 bt438.1 (bt447.2 != t410) bt438.2) else (laws_FnExactPutItems.j2 kj79 bt438.1 true bt438.2)))))) else (some false))))) = some r := by rw [if_neg (show ¬ (false = true) by decide)] at H; exact H
           clear H
           have H := H1
           clear H1
           replace H := Option.bind_eq_some_iff.mp H
           obtain ⟨⟨t438, t439⟩, A1140, H⟩ := H
           replace H : ((laws_heldStore.f kj79 t439 1).bind fun t440 => (if t440 < 0 then (some false) else (if t440 = t438 then ((laws_toStore.f kj79 l0_0).bind fun t441 => ((laws_toItemS.f kj79 l2).bind fun t444 => ((impl_PutItems.f kj79 t441 a1 t444).bind fun bt447 => ((laws_eqStore.f kj79 bt447.1 t407).bind fun t452 => (if t452 = true then (laws_FnExactPutItems.j2 kj79 t438 (bt447.2 != t410) t439) else (laws_FnExactPutItems.j2 kj79 t438 true t439)))))) else (some false)))) = some r := H
           have A114 := Aside0.mk A1140
           clear A1140
           replace H := Option.bind_eq_some_iff.mp H
           obtain ⟨t440, A1150, H⟩ := H
           replace H : (if t440 < 0 then (some false) else (if t440 = t438 then ((laws_toStore.f kj79 l0_0).bind fun t441 => ((laws_toItemS.f kj79 l2).bind fun t444 => ((impl_PutItems.f kj79 t441 a1 t444).bind fun bt447 => ((laws_eqStore.f kj79 bt447.1 t407).bind fun t452 => (if t452 = true then (laws_FnExactPutItems.j2 kj79 t438 (bt447.2 != t410) t439) else (laws_FnExactPutItems.j2 kj79 t438 true t439)))))) else (some false))) = some r := H
           have A115 := Aside0.mk A1150
           clear A1150
           by_cases c116 : t440 < 0
           ·rw [if_pos c116] at H
            have c116b0 : decide (t440 < 0) = true := decide_eq_true c116
            clear c116
            obtain rfl := Option.some.inj H
            have hnb117 := NB423_398.out
            have hnc117 := NB398_423.out
            have hnb118 := NB423_411.out
            have hnc118 := NB411_423.out
            have hnb119 := NB423_415.out
            have hnc119 := NB415_423.out
            have hcz120_0 : wc.cell? ⟨gb423, 0, none⟩ = some (.slice Ao48 t419.length co48) := (blk_cell BK423.out 0).trans rfl
            have hfz120_0 := blk_frozen BK423.out 0
            go_wp2_with (first | ((with_reducible refine gate_callee (f := 27) rfl ?_); refine goesL_ (some 89) rfl rfl Try.func27 Z0 rfl #[.agg #[.slice Ao48 t419.length co48], .int .i64 1] rfl Z11 ?_; (with_reducible refine (laws_markStore.calls kj79 (fun k_ => some k_ = (.slice Ao48 t419.length co48 : Value).ownBlock) (.slice Ao48 t419.length co48) t419 1 t438 t439 w _ ?side1 ?side2 A114.out).mono ?_); (case side1 => exact Z42); (case side2 => exact Kd.R_tight rfl HO_424000.out); rintro e w121 ⟨rfl, hy0, hb, hkp⟩; refine ⟨_, rfl, ?_⟩; replace HO_412000 := Z (Kd.R_mono (ok' := fun k_ => some k_ ≠ (.slice Ao39 t434.length co39 : Value).ownBlock ∧ some k_ ≠ (.slice Ao48 t419.length co48 : Value).ownBlock) (Kd.R_keptB (HO_412000.out) hkp (fun k_ hk_ hs_ => (hk_.2) hs_)) (fun k_ hk_ => ⟨hk_.1.1, hk_.1.2⟩)); replace HO_416000 := Z (Kd.R_mono (ok' := fun k_ => some k_ ≠ (.slice Ao33 t407.length co33 : Value).ownBlock ∧ some k_ ≠ (.slice Ao48 t419.length co48 : Value).ownBlock) (Kd.R_keptB (HO_416000.out) hkp (fun k_ hk_ hs_ => (hk_.2) hs_)) (fun k_ hk_ => ⟨hk_.1.1, hk_.1.2⟩)); replace BK398 := Z (blk_kept (g := gb398) (o := .cells #[.slice A0_0 l0_0.length c0_0] 42 (0, 0)) (Z10 BK398) hkp (fun hs_ => (fun e_ => (Kd.R_ne HO_424000.out BK398.out (by decide)) e_) hs_)); replace BK411 := Z (blk_kept (g := gb411) (o := .cells #[.slice Ao33 t407.length co33] 34 (0, 0)) (Z10 BK411) hkp (fun hs_ => (fun e_ => (Kd.R_ne HO_424000.out BK411.out (by decide)) e_) hs_)); replace BK415 := Z (blk_kept (g := gb415) (o := .cells #[.slice Ao39 t434.length co39] 34 (0, 0)) (Z10 BK415) hkp (fun hs_ => (fun e_ => (Kd.R_ne HO_424000.out BK415.out (by decide)) e_) hs_)); replace BK423 := Z (blk_kept (g := gb423) (o := .cells #[.slice Ao48 t419.length co48] 34 (0, 0)) (Z10 BK423) hkp (fun hs_ => (fun e_ => (Kd.R_ne HO_424000.out BK423.out (by decide)) e_) hs_)); replace HO_424000 := Z (Kd.R_reok rfl hy0 (fun k_ e_ => HO_424000.out.1 k_ e_)); replace HB := Z (hb); (try clear hb); (try clear hkp); (try clear hy0); have hcz122_0 : w121.cell? ⟨gb423, 0, none⟩ = some (.slice Ao48 t419.length co48) := (blk_cell BK423.out 0).trans rfl; have hfz122_0 := blk_frozen BK423.out 0) | ((with_reducible refine gate_callee (f := 28) rfl ?_); refine goesL_ (some 92) rfl rfl Try.func28 Z0 rfl #[.agg #[.slice Ao48 t439.length co48], .int .i64 1] rfl (Z33 HO_424000) ?_; (with_reducible refine (laws_heldStore.calls kj79 _ _ t439 1 t440 _ ?side1 ?side2 A115.out).mono ?_); (case side1 => exact (Z21 HO_424000)); (case side2 => rw [show t439.length = t419.length from (Kd.R_reads' HO_424000.out).1.symm]; exact (Kd.R_reads' HO_424000.out).2.1); rintro e w123 ⟨rfl, hb⟩; refine ⟨_, rfl, ?_⟩; replace HO_412000 := Z (Kd.R_below (Z14 HO_412000) hb); replace HO_416000 := Z (Kd.R_below (Z14 HO_416000) hb); replace HO_424000 := Z (Kd.R_below (Z14 HO_424000) hb); replace BK398 := Z (blk_below (g := gb398) (o := .cells #[.slice A0_0 l0_0.length c0_0] 42 (0, 0)) (Z10 BK398) hb); replace BK411 := Z (blk_below (g := gb411) (o := .cells #[.slice Ao33 t407.length co33] 34 (0, 0)) (Z10 BK411) hb); replace BK415 := Z (blk_below (g := gb415) (o := .cells #[.slice Ao39 t434.length co39] 34 (0, 0)) (Z10 BK415) hb); replace BK423 := Z (blk_below (g := gb423) (o := .cells #[.slice Ao48 t419.length co48] 34 (0, 0)) (Z10 BK423) hb); replace HB := Z (below_step Z42 hb); (try clear hb); (try clear hb2); (try clear hk); (try clear hi)))
            go_ret
            exact ⟨Z13, Z42⟩
           ·rw [if_neg c116] at H
            have c116b0 : decide (t440 < 0) = false := decide_eq_false c116
            clear c116
            by_cases c124 : t440 = t438
            ·rw [if_pos c124] at H
             have c124b0 : (t440 == t438) = true := beq_iff_eq.mpr c124
             have c124b1 : (t440 != t438) = false := bne_eq_false_iff_eq.mpr c124
             clear c124
             replace H := Option.bind_eq_some_iff.mp H
             obtain ⟨t441, A1250, H⟩ := H
             replace H : ((laws_toItemS.f kj79 l2).bind fun t444 => ((impl_PutItems.f kj79 t441 a1 t444).bind fun bt447 => ((laws_eqStore.f kj79 bt447.1 t407).bind fun t452 => (if t452 = true then (laws_FnExactPutItems.j2 kj79 t438 (bt447.2 != t410) t439) else (laws_FnExactPutItems.j2 kj79 t438 true t439))))) = some r := H
             have A125 := Aside0.mk A1250
             clear A1250
             replace H := Option.bind_eq_some_iff.mp H
             obtain ⟨t444, A1260, H⟩ := H
             replace H : ((impl_PutItems.f kj79 t441 a1 t444).bind fun bt447 => ((laws_eqStore.f kj79 bt447.1 t407).bind fun t452 => (if t452 = true then (laws_FnExactPutItems.j2 kj79 t438 (bt447.2 != t410) t439) else (laws_FnExactPutItems.j2 kj79 t438 true t439)))) = some r := H
             have A126 := Aside0.mk A1260
             clear A1260
             replace H := Option.bind_eq_some_iff.mp H
             obtain ⟨⟨t447, t450⟩, A1270, H⟩ := H
             replace H : ((laws_eqStore.f kj79 t447 t407).bind fun t452 => (if t452 = true then (laws_FnExactPutItems.j2 kj79 t438 (t450 != t410) t439) else (laws_FnExactPutItems.j2 kj79 t438 true t439))) = some r := H
             have A127 := Aside0.mk A1270
             clear A1270
             have HC128 := Aside0.mk H
             clear H
             have hnb129 := NB423_398.out
             have hnc129 := NB398_423.out
             have hnb130 := NB423_411.out
             have hnc130 := NB411_423.out
             have hnb131 := NB423_415.out
             have hnc131 := NB415_423.out
             have hcz132_0 : wc.cell? ⟨gb423, 0, none⟩ = some (.slice Ao48 t419.length co48) := (blk_cell BK423.out 0).trans rfl
             have hfz132_0 := blk_frozen BK423.out 0
             go_upto_region 32 with (first | ((with_reducible refine gate_callee (f := 27) rfl ?_); refine goesL_ (some 89) rfl rfl Try.func27 Z0 rfl #[.agg #[.slice Ao48 t419.length co48], .int .i64 1] rfl Z11 ?_; (with_reducible refine (laws_markStore.calls kj79 (fun k_ => some k_ = (.slice Ao48 t419.length co48 : Value).ownBlock) (.slice Ao48 t419.length co48) t419 1 t438 t439 w _ ?side1 ?side2 A114.out).mono ?_); (case side1 => exact Z42); (case side2 => exact Kd.R_tight rfl HO_424000.out); rintro e w133 ⟨rfl, hy0, hb, hkp⟩; refine ⟨_, rfl, ?_⟩; replace HO_412000 := Z (Kd.R_mono (ok' := fun k_ => some k_ ≠ (.slice Ao39 t434.length co39 : Value).ownBlock ∧ some k_ ≠ (.slice Ao48 t419.length co48 : Value).ownBlock) (Kd.R_keptB (HO_412000.out) hkp (fun k_ hk_ hs_ => (hk_.2) hs_)) (fun k_ hk_ => ⟨hk_.1.1, hk_.1.2⟩)); replace HO_416000 := Z (Kd.R_mono (ok' := fun k_ => some k_ ≠ (.slice Ao33 t407.length co33 : Value).ownBlock ∧ some k_ ≠ (.slice Ao48 t419.length co48 : Value).ownBlock) (Kd.R_keptB (HO_416000.out) hkp (fun k_ hk_ hs_ => (hk_.2) hs_)) (fun k_ hk_ => ⟨hk_.1.1, hk_.1.2⟩)); replace BK398 := Z (blk_kept (g := gb398) (o := .cells #[.slice A0_0 l0_0.length c0_0] 42 (0, 0)) (Z10 BK398) hkp (fun hs_ => (fun e_ => (Kd.R_ne HO_424000.out BK398.out (by decide)) e_) hs_)); replace BK411 := Z (blk_kept (g := gb411) (o := .cells #[.slice Ao33 t407.length co33] 34 (0, 0)) (Z10 BK411) hkp (fun hs_ => (fun e_ => (Kd.R_ne HO_424000.out BK411.out (by decide)) e_) hs_)); replace BK415 := Z (blk_kept (g := gb415) (o := .cells #[.slice Ao39 t434.length co39] 34 (0, 0)) (Z10 BK415) hkp (fun hs_ => (fun e_ => (Kd.R_ne HO_424000.out BK415.out (by decide)) e_) hs_)); replace BK423 := Z (blk_kept (g := gb423) (o := .cells #[.slice Ao48 t419.length co48] 34 (0, 0)) (Z10 BK423) hkp (fun hs_ => (fun e_ => (Kd.R_ne HO_424000.out BK423.out (by decide)) e_) hs_)); replace HO_424000 := Z (Kd.R_reok rfl hy0 (fun k_ e_ => HO_424000.out.1 k_ e_)); replace HB := Z (hb); (try clear hb); (try clear hkp); (try clear hy0); have hcz134_0 : w133.cell? ⟨gb423, 0, none⟩ = some (.slice Ao48 t419.length co48) := (blk_cell BK423.out 0).trans rfl; have hfz134_0 := blk_frozen BK423.out 0) | ((with_reducible refine gate_callee (f := 28) rfl ?_); refine goesL_ (some 92) rfl rfl Try.func28 Z0 rfl #[.agg #[.slice Ao48 t439.length co48], .int .i64 1] rfl (Z33 HO_424000) ?_; (with_reducible refine (laws_heldStore.calls kj79 _ _ t439 1 t440 _ ?side1 ?side2 A115.out).mono ?_); (case side1 => exact (Z21 HO_424000)); (case side2 => rw [show t439.length = t419.length from (Kd.R_reads' HO_424000.out).1.symm]; exact (Kd.R_reads' HO_424000.out).2.1); rintro e w135 ⟨rfl, hb⟩; refine ⟨_, rfl, ?_⟩; replace HO_412000 := Z (Kd.R_below (Z14 HO_412000) hb); replace HO_416000 := Z (Kd.R_below (Z14 HO_416000) hb); replace HO_424000 := Z (Kd.R_below (Z14 HO_424000) hb); replace BK398 := Z (blk_below (g := gb398) (o := .cells #[.slice A0_0 l0_0.length c0_0] 42 (0, 0)) (Z10 BK398) hb); replace BK411 := Z (blk_below (g := gb411) (o := .cells #[.slice Ao33 t407.length co33] 34 (0, 0)) (Z10 BK411) hb); replace BK415 := Z (blk_below (g := gb415) (o := .cells #[.slice Ao39 t434.length co39] 34 (0, 0)) (Z10 BK415) hb); replace BK423 := Z (blk_below (g := gb423) (o := .cells #[.slice Ao48 t419.length co48] 34 (0, 0)) (Z10 BK423) hb); replace HB := Z (below_step Z42 hb); (try clear hb); (try clear hb2); (try clear hk); (try clear hi); have hnb136 := NB398_411.out; have hnc136 := NB411_398.out; have hnb137 := NB398_415.out; have hnc137 := NB415_398.out; have hcz138_0 : w135.cell? ⟨gb398, 0, none⟩ = some (.slice A0_0 l0_0.length c0_0) := (blk_cell BK398.out 0).trans rfl; have hfz138_0 := blk_frozen BK398.out 0) | ((with_reducible refine gate_callee (f := 31) rfl ?_); refine goesL_ (some 100) rfl rfl Try.func31 Z0 rfl #[.agg #[.slice A0_0 l0_0.length c0_0]] rfl Z11 ?_; (with_reducible refine (laws_toStore.calls kj79 _ _ l0_0 t441 _ ?side1 ?side2 A125.out).mono ?_); (case side1 => exact (Z12 HR0_0)); (case side2 => exact HC0_0.out); rintro e w139 ⟨v442, rfl, ho0, hb⟩; refine ⟨_, rfl, ?_⟩; have HO443 := Z (Kd.R_lower (Kd.R_new' (Kd.R_new' (Kd.R_new' ho0 (Kd.R_lt (Z14 HO_412000))) (Kd.R_lt (Z14 HO_416000))) (Kd.R_lt (Z14 HO_424000))) (below_size Z42)); replace HO_412000 := Z (Kd.R_elder' (Z14 HO_412000) (Kd.R_base ho0) hb); replace HO_416000 := Z (Kd.R_elder' (Z14 HO_416000) (Kd.R_base ho0) hb); replace HO_424000 := Z (Kd.R_elder' (Z14 HO_424000) (Kd.R_base ho0) hb); replace BK398 := Z (blk_below (g := gb398) (o := .cells #[.slice A0_0 l0_0.length c0_0] 42 (0, 0)) (Z10 BK398) hb); replace BK411 := Z (blk_below (g := gb411) (o := .cells #[.slice Ao33 t407.length co33] 34 (0, 0)) (Z10 BK411) hb); replace BK415 := Z (blk_below (g := gb415) (o := .cells #[.slice Ao39 t434.length co39] 34 (0, 0)) (Z10 BK415) hb); replace BK423 := Z (blk_below (g := gb423) (o := .cells #[.slice Ao48 t419.length co48] 34 (0, 0)) (Z10 BK423) hb); replace HB := Z (below_step Z42 hb); (try clear hb); (try clear hb2); (try clear hk); (try clear hi); (try clear ho0)) | ((with_reducible refine gate_callee (f := 46) rfl ?_); refine goesL_ (some 103) rfl rfl Try.func46 Z0 rfl #[.slice A2 l2.length c2] rfl Z11 ?_; (with_reducible refine (laws_toItemS.calls kj79 _ _ l2 t444 _ ?side1 ?side2 A126.out).mono ?_); (case side1 => exact (Z12 HR2)); (case side2 => exact HC2.out); rintro e w140 ⟨v445, rfl, ho0, hb⟩; refine ⟨_, rfl, ?_⟩; replace HO_412000 := Z (Kd.R_below (Z14 HO_412000) hb); replace HO_416000 := Z (Kd.R_below (Z14 HO_416000) hb); replace HO_424000 := Z (Kd.R_below (Z14 HO_424000) hb); replace HO443 := Z (Kd.R_below (Z14 HO443) hb); have HO446 := Z (Kd.R_lower ho0 (below_size Z42)); replace BK398 := Z (blk_below (g := gb398) (o := .cells #[.slice A0_0 l0_0.length c0_0] 42 (0, 0)) (Z10 BK398) hb); replace BK411 := Z (blk_below (g := gb411) (o := .cells #[.slice Ao33 t407.length co33] 34 (0, 0)) (Z10 BK411) hb); replace BK415 := Z (blk_below (g := gb415) (o := .cells #[.slice Ao39 t434.length co39] 34 (0, 0)) (Z10 BK415) hb); replace BK423 := Z (blk_below (g := gb423) (o := .cells #[.slice Ao48 t419.length co48] 34 (0, 0)) (Z10 BK423) hb); replace HB := Z (below_step Z42 hb); (try clear hb); (try clear hb2); (try clear hk); (try clear hi); (try clear ho0); obtain ⟨Ao141, co141, eo141⟩ := Kd.R_slice HO443.out; subst eo141; obtain ⟨Ao142, co142, eo142⟩ := Kd.R_slice HO446.out; subst eo142) | ((with_reducible refine gate_callee (f := 47) rfl ?_); refine goesL_ (some 104) rfl rfl Try.func47 Z0 rfl #[.agg #[.slice Ao141 t441.length co141], .int .i64 a1, .slice Ao142 t444.length co142] rfl Z11 ?_; (with_reducible refine (impl_PutItems.calls kj79 _ _ t441 a1 _ _ t444 t447 t450 _ ?side1 ?side2 ?side3 ?side4 A127.out).mono ?_); (case side1 => exact (Z21 HO443)); (case side2 => exact (Kd.R_reads' HO443.out).2.1); (case side3 => exact (Z21 HO446)); (case side4 => exact (Kd.R_reads' HO446.out).2.1); rintro e w143 ⟨v448, rfl, ho0, hb⟩; refine ⟨_, rfl, ?_⟩; replace HO446 := Z (Kd.R_below (Z14 HO446) hb); have HO449 := Z (Kd.R_lower (Kd.R_new' (Kd.R_new' (Kd.R_new' (Kd.R_new' ho0 (Kd.R_lt (Z14 HO_412000))) (Kd.R_lt (Z14 HO_416000))) (Kd.R_lt (Z14 HO_424000))) (Kd.R_lt (Z14 HO443))) (below_size Z42)); replace HO_412000 := Z (Kd.R_elder' (Z14 HO_412000) (Kd.R_base ho0) hb); replace HO_416000 := Z (Kd.R_elder' (Z14 HO_416000) (Kd.R_base ho0) hb); replace HO_424000 := Z (Kd.R_elder' (Z14 HO_424000) (Kd.R_base ho0) hb); replace HO443 := Z (Kd.R_elder' (Z14 HO443) (Kd.R_base ho0) hb); replace BK398 := Z (blk_below (g := gb398) (o := .cells #[.slice A0_0 l0_0.length c0_0] 42 (0, 0)) (Z10 BK398) hb); replace BK411 := Z (blk_below (g := gb411) (o := .cells #[.slice Ao33 t407.length co33] 34 (0, 0)) (Z10 BK411) hb); replace BK415 := Z (blk_below (g := gb415) (o := .cells #[.slice Ao39 t434.length co39] 34 (0, 0)) (Z10 BK415) hb); replace BK423 := Z (blk_below (g := gb423) (o := .cells #[.slice Ao48 t419.length co48] 34 (0, 0)) (Z10 BK423) hb); replace HB := Z (below_step Z42 hb); (try clear hb); (try clear hb2); (try clear hk); (try clear hi); (try clear ho0)) | ((with_reducible refine gate_dst (N := 17) rfl ?_); refine box_event (by rfl) (N := 17) (by rfl) (cs := #[.slice none 0 0]) (t := 34) Z8 ?_; intro gb451 hg w144 hbox hb; replace HO_412000 := Z (Kd.R_below (Z14 HO_412000) hb); replace HO_416000 := Z (Kd.R_below (Z14 HO_416000) hb); replace HO_424000 := Z (Kd.R_below (Z14 HO_424000) hb); replace HO443 := Z (Kd.R_below (Z14 HO443) hb); replace HO446 := Z (Kd.R_below (Z14 HO446) hb); replace HO449 := Z (Kd.R_below (Z14 HO449) hb); have BK451 := Z (hbox); have GW451 := Z ((Z63 : w.heap.size ≤ gb451)); have GE451 := Z ((Z63 : w.heap.size ≤ gb451)); replace HB := Z (below_step Z42 hb); have NB398_451 := Z ((Z59 : gb398 ≠ gb451)); have NB451_398 := Z ((Z60 : gb451 ≠ gb398)); replace BK398 := Z (blk_below (g := gb398) (o := .cells #[.slice A0_0 l0_0.length c0_0] 42 (0, 0)) (Z10 BK398) hb); have NB411_451 := Z ((Z61 : gb411 ≠ gb451)); have NB451_411 := Z ((Z62 : gb451 ≠ gb411)); replace BK411 := Z (blk_below (g := gb411) (o := .cells #[.slice Ao33 t407.length co33] 34 (0, 0)) (Z10 BK411) hb); have NB415_451 := Z ((by rw [hg]; exact Nat.ne_of_lt (blk_lt (g := gb415) (o := .cells #[.slice Ao39 t434.length co39] 34 (0, 0)) (Z10 BK415)) : gb415 ≠ gb451)); have NB451_415 := Z ((by rw [hg]; exact Nat.ne_of_gt (blk_lt (g := gb415) (o := .cells #[.slice Ao39 t434.length co39] 34 (0, 0)) (Z10 BK415)) : gb451 ≠ gb415)); replace BK415 := Z (blk_below (g := gb415) (o := .cells #[.slice Ao39 t434.length co39] 34 (0, 0)) (Z10 BK415) hb); have NB423_451 := Z ((by rw [hg]; exact Nat.ne_of_lt (blk_lt (g := gb423) (o := .cells #[.slice Ao48 t419.length co48] 34 (0, 0)) (Z10 BK423)) : gb423 ≠ gb451)); have NB451_423 := Z ((by rw [hg]; exact Nat.ne_of_gt (blk_lt (g := gb423) (o := .cells #[.slice Ao48 t419.length co48] 34 (0, 0)) (Z10 BK423)) : gb451 ≠ gb423)); replace BK423 := Z (blk_below (g := gb423) (o := .cells #[.slice Ao48 t419.length co48] 34 (0, 0)) (Z10 BK423) hb); clear hb hbox hg; obtain ⟨Ao145, co145, eo145⟩ := Kd.R_slice HO449.out; subst eo145; have hnb146 := NB451_398.out; have hnc146 := NB398_451.out; have hnb147 := NB451_411.out; have hnc147 := NB411_451.out; have hnb148 := NB451_415.out; have hnc148 := NB415_451.out; have hnb149 := NB451_423.out; have hnc149 := NB423_451.out; have hcz150_0 : w144.cell? ⟨gb451, 0, none⟩ = some (.slice none 0 0) := (blk_cell BK451.out 0).trans rfl; have hfz150_0 := blk_frozen BK451.out 0))
             (try simp only [Act.put, List.setIfInBounds_toArray, List.set_cons_zero, List.set_cons_succ])
             go_cut [115] (fun v115 wc => ∃ (kq : Nat) (x115_127 : Bool), v115 = .bool x115_127 ∧ Aside0 (laws_FnExactPutItems.j2 kq t438 x115_127 t439 = some r) ∧ Aside0 (kq ≤ kj79) ∧ Aside0 (Kd.R (Kd.int .u32) 47 wc w.heap.size (fun k_ => some k_ ≠ ((.slice Ao39 t434.length co39) : Value).ownBlock ∧ some k_ ≠ ((.slice Ao48 t419.length co48) : Value).ownBlock ∧ some k_ ≠ ((.slice Ao145 t447.length co145) : Value).ownBlock) (.slice Ao33 t407.length co33) t407) ∧ Aside0 (Kd.R (Kd.int .u32) 47 wc w.heap.size (fun k_ => some k_ ≠ ((.slice Ao33 t407.length co33) : Value).ownBlock ∧ some k_ ≠ ((.slice Ao48 t419.length co48) : Value).ownBlock ∧ some k_ ≠ ((.slice Ao145 t447.length co145) : Value).ownBlock) (.slice Ao39 t434.length co39) t434) ∧ Aside0 (Kd.R (Kd.int .u32) 47 wc w.heap.size (fun k_ => some k_ ≠ ((.slice Ao33 t407.length co33) : Value).ownBlock ∧ some k_ ≠ ((.slice Ao39 t434.length co39) : Value).ownBlock ∧ some k_ ≠ ((.slice Ao145 t447.length co145) : Value).ownBlock) (.slice Ao48 t419.length co48) t439) ∧ Aside0 (Kd.R (Kd.int .u32) 47 wc w.heap.size (fun k_ => some k_ ≠ ((.slice Ao33 t407.length co33) : Value).ownBlock ∧ some k_ ≠ ((.slice Ao39 t434.length co39) : Value).ownBlock ∧ some k_ ≠ ((.slice Ao48 t419.length co48) : Value).ownBlock) (.slice Ao145 t447.length co145) t447) ∧ Aside0 (wc.heap[gb398]? = some (.cells #[(.slice A0_0 l0_0.length c0_0)] 42 (0, 0))) ∧ Aside0 (wc.heap[gb411]? = some (.cells #[(.slice Ao33 t407.length co33)] 34 (0, 0))) ∧ Aside0 (wc.heap[gb415]? = some (.cells #[(.slice Ao39 t434.length co39)] 34 (0, 0))) ∧ Aside0 (wc.heap[gb423]? = some (.cells #[(.slice Ao48 t419.length co48)] 34 (0, 0))) ∧ Aside0 (wc.heap[gb451]? = some (.cells #[(.slice Ao145 t447.length co145)] 34 (0, 0))) ∧ Aside0 (Below w.heap.size w wc))
             case first =>
              have H := HC128.out
              clear HC128
              replace H := Option.bind_eq_some_iff.mp H
              obtain ⟨t452, A1510, H⟩ := H
              replace H : (if t452 = true then (laws_FnExactPutItems.j2 kj79 t438 (t450 != t410) t439) else (laws_FnExactPutItems.j2 kj79 t438 true t439)) = some r := H
              have A151 := Aside0.mk A1510
              clear A1510
              by_cases c152 : t452 = true
              ·subst c152
               have H1 : (laws_FnExactPutItems.j2 kj79 t438 (t450 != t410) t439) = some r := Z7
               clear H
               have H := H1
               clear H1
               have H' := Aside0.mk H
               clear H
               have hnb153 := NB451_398.out
               have hnc153 := NB398_451.out
               have hnb154 := NB451_411.out
               have hnc154 := NB411_451.out
               have hnb155 := NB451_415.out
               have hnc155 := NB415_451.out
               have hnb156 := NB451_423.out
               have hnc156 := NB423_451.out
               have hcz157_0 : w144.cell? ⟨gb451, 0, none⟩ = some (.slice none 0 0) := (blk_cell BK451.out 0).trans rfl
               have hfz157_0 := blk_frozen BK451.out 0
               have hnb158 := NB411_398.out
               have hnc158 := NB398_411.out
               have hnb159 := NB411_415.out
               have hnc159 := NB415_411.out
               have hnb160 := NB411_423.out
               have hnc160 := NB423_411.out
               have hcz161_0 : w144.cell? ⟨gb411, 0, none⟩ = some (.slice Ao33 t407.length co33) := (blk_cell BK411.out 0).trans rfl
               have hfz161_0 := blk_frozen BK411.out 0
               go_wp2_with (first | ((with_reducible refine gate_callee (f := 24) rfl ?_); refine goesL_ (some 109) rfl rfl Try.func24 Z0 rfl #[.agg #[.slice Ao145 t447.length co145], .agg #[.slice Ao33 t407.length co33]] rfl Z11 ?_; (with_reducible refine (laws_eqStore.calls kj79 _ _ t447 _ _ t407 true _ ?side1 ?side2 ?side3 ?side4 A151.out).mono ?_); (case side1 => exact (by refine (Kd.R_reads' (e := 47) (base := w.heap.size) (ok := fun k_ => ((((True ∧ some k_ ≠ (.slice Ao33 t407.length co33 : Value).ownBlock) ∧ some k_ ≠ (.slice Ao39 t434.length co39 : Value).ownBlock) ∧ some k_ ≠ (.slice Ao48 t419.length co48 : Value).ownBlock) ∧ some k_ ≠ (.slice Ao141 t441.length co141 : Value).ownBlock)) (n := t447.length) (c := co145) ?_).2.2; exact (by (with_reducible repeat (first | apply Kd.R_alloc | apply Kd.R_drewN | apply Kd.R_drew)); exact (Kd.R_mono (Kd.R_far (p := ⟨gb451, 0, none⟩) (Kd.R_types HO449.out BK451.out (by decide)) (fun _ hk => hk.2) (.slice Ao145 t447.length co145)) (fun _ h_ => h_.1))))); (case side2 => exact (Kd.R_reads' HO449.out).2.1); (case side3 => exact (by refine (Kd.R_reads' (e := 47) (base := w.heap.size) (ok := fun k_ => (((some k_ ≠ (.slice Ao39 t434.length co39 : Value).ownBlock ∧ some k_ ≠ (.slice Ao48 t419.length co48 : Value).ownBlock) ∧ some k_ ≠ (.slice Ao141 t441.length co141 : Value).ownBlock) ∧ some k_ ≠ (.slice Ao145 t447.length co145 : Value).ownBlock)) (n := t407.length) (c := co33) ?_).2.2; exact (by (with_reducible repeat (first | apply Kd.R_alloc | apply Kd.R_drewN | apply Kd.R_drew)); exact (Kd.R_mono (Kd.R_far (p := ⟨gb451, 0, none⟩) (Kd.R_types HO_412000.out BK451.out (by decide)) (fun _ hk => hk.2) (.slice Ao145 t447.length co145)) (fun _ h_ => h_.1))))); (case side4 => exact (Kd.R_reads' HO_412000.out).2.1); rintro e w162 ⟨rfl, hb⟩; refine ⟨_, rfl, ?_⟩; replace HO_412000 := Z (Kd.R_below (by (with_reducible repeat (first | apply Kd.R_alloc | apply Kd.R_drewN | apply Kd.R_drew)); exact (Kd.R_mono (Kd.R_far (p := ⟨gb451, 0, none⟩) (Kd.R_types HO_412000.out BK451.out (by decide)) (fun _ hk => hk.2) (.slice Ao145 t447.length co145)) (fun _ h_ => h_.1))) hb); replace HO_416000 := Z (Kd.R_below (by (with_reducible repeat (first | apply Kd.R_alloc | apply Kd.R_drewN | apply Kd.R_drew)); exact (Kd.R_mono (Kd.R_far (p := ⟨gb451, 0, none⟩) (Kd.R_types HO_416000.out BK451.out (by decide)) (fun _ hk => hk.2) (.slice Ao145 t447.length co145)) (fun _ h_ => h_.1))) hb); replace HO_424000 := Z (Kd.R_below (by (with_reducible repeat (first | apply Kd.R_alloc | apply Kd.R_drewN | apply Kd.R_drew)); exact (Kd.R_mono (Kd.R_far (p := ⟨gb451, 0, none⟩) (Kd.R_types HO_424000.out BK451.out (by decide)) (fun _ hk => hk.2) (.slice Ao145 t447.length co145)) (fun _ h_ => h_.1))) hb); replace HO443 := Z (Kd.R_below (by (with_reducible repeat (first | apply Kd.R_alloc | apply Kd.R_drewN | apply Kd.R_drew)); exact (Kd.R_mono (Kd.R_far (p := ⟨gb451, 0, none⟩) (Kd.R_types HO443.out BK451.out (by decide)) (fun _ hk => hk.2) (.slice Ao145 t447.length co145)) (fun _ h_ => h_.1))) hb); replace HO446 := Z (Kd.R_below (by (with_reducible repeat (first | apply Kd.R_alloc | apply Kd.R_drewN | apply Kd.R_drew)); exact (Kd.R_mono (Kd.R_far (p := ⟨gb451, 0, none⟩) (Kd.R_types HO446.out BK451.out (by decide)) (fun _ hk => hk.2) (.slice Ao145 t447.length co145)) (fun _ h_ => h_.1))) hb); replace HO449 := Z (Kd.R_below (by (with_reducible repeat (first | apply Kd.R_alloc | apply Kd.R_drewN | apply Kd.R_drew)); exact (Kd.R_mono (Kd.R_far (p := ⟨gb451, 0, none⟩) (Kd.R_types HO449.out BK451.out (by decide)) (fun _ hk => hk.2) (.slice Ao145 t447.length co145)) (fun _ h_ => h_.1))) hb); replace BK398 := Z (blk_below (g := gb398) (o := .cells #[.slice A0_0 l0_0.length c0_0] 42 (0, 0)) (Z34 BK398) hb); replace BK411 := Z (blk_below (g := gb411) (o := .cells #[.slice Ao33 t407.length co33] 34 (0, 0)) (Z35 BK411) hb); replace BK415 := Z (blk_below (g := gb415) (o := .cells #[.slice Ao39 t434.length co39] 34 (0, 0)) (Z36 BK415) hb); replace BK423 := Z (blk_below (g := gb423) (o := .cells #[.slice Ao48 t419.length co48] 34 (0, 0)) (Z37 BK423) hb); replace BK451 := Z (blk_below (g := gb451) (o := .cells #[.slice Ao145 t447.length co145] 34 (0, 0)) (Z18 BK451) hb); replace HB := Z (below_step Z42 hb); (try clear hb); (try clear hb2); (try clear hk); (try clear hi)))
               go_meet
               case rel => exact ⟨_, ((t450 != t410)), Z3, H', ⟨Z38⟩, ⟨(Z39 HO_412000)⟩, ⟨(Z39 HO_416000)⟩, ⟨(Z39 HO_424000)⟩, ⟨(Z40 HO449)⟩, ⟨(Z41 BK398)⟩, ⟨(Z41 BK411)⟩, ⟨(Z41 BK415)⟩, ⟨(Z41 BK423)⟩, ⟨(Z41 BK451)⟩, ⟨Z42⟩⟩
              ·replace c152 := Bool.eq_false_iff.mpr c152
               subst c152
               have H1 : (laws_FnExactPutItems.j2 kj79 t438 true t439) = some r := by rw [if_neg (show ¬ (false = true) by decide)] at H; exact H
               clear H
               have H := H1
               clear H1
               have H' := Aside0.mk H
               clear H
               have hnb163 := NB451_398.out
               have hnc163 := NB398_451.out
               have hnb164 := NB451_411.out
               have hnc164 := NB411_451.out
               have hnb165 := NB451_415.out
               have hnc165 := NB415_451.out
               have hnb166 := NB451_423.out
               have hnc166 := NB423_451.out
               have hcz167_0 : w144.cell? ⟨gb451, 0, none⟩ = some (.slice none 0 0) := (blk_cell BK451.out 0).trans rfl
               have hfz167_0 := blk_frozen BK451.out 0
               have hnb168 := NB411_398.out
               have hnc168 := NB398_411.out
               have hnb169 := NB411_415.out
               have hnc169 := NB415_411.out
               have hnb170 := NB411_423.out
               have hnc170 := NB423_411.out
               have hcz171_0 : w144.cell? ⟨gb411, 0, none⟩ = some (.slice Ao33 t407.length co33) := (blk_cell BK411.out 0).trans rfl
               have hfz171_0 := blk_frozen BK411.out 0
               go_wp2_with (first | ((with_reducible refine gate_callee (f := 24) rfl ?_); refine goesL_ (some 109) rfl rfl Try.func24 Z0 rfl #[.agg #[.slice Ao145 t447.length co145], .agg #[.slice Ao33 t407.length co33]] rfl Z11 ?_; (with_reducible refine (laws_eqStore.calls kj79 _ _ t447 _ _ t407 false _ ?side1 ?side2 ?side3 ?side4 A151.out).mono ?_); (case side1 => exact (by refine (Kd.R_reads' (e := 47) (base := w.heap.size) (ok := fun k_ => ((((True ∧ some k_ ≠ (.slice Ao33 t407.length co33 : Value).ownBlock) ∧ some k_ ≠ (.slice Ao39 t434.length co39 : Value).ownBlock) ∧ some k_ ≠ (.slice Ao48 t419.length co48 : Value).ownBlock) ∧ some k_ ≠ (.slice Ao141 t441.length co141 : Value).ownBlock)) (n := t447.length) (c := co145) ?_).2.2; exact (by (with_reducible repeat (first | apply Kd.R_alloc | apply Kd.R_drewN | apply Kd.R_drew)); exact (Kd.R_mono (Kd.R_far (p := ⟨gb451, 0, none⟩) (Kd.R_types HO449.out BK451.out (by decide)) (fun _ hk => hk.2) (.slice Ao145 t447.length co145)) (fun _ h_ => h_.1))))); (case side2 => exact (Kd.R_reads' HO449.out).2.1); (case side3 => exact (by refine (Kd.R_reads' (e := 47) (base := w.heap.size) (ok := fun k_ => (((some k_ ≠ (.slice Ao39 t434.length co39 : Value).ownBlock ∧ some k_ ≠ (.slice Ao48 t419.length co48 : Value).ownBlock) ∧ some k_ ≠ (.slice Ao141 t441.length co141 : Value).ownBlock) ∧ some k_ ≠ (.slice Ao145 t447.length co145 : Value).ownBlock)) (n := t407.length) (c := co33) ?_).2.2; exact (by (with_reducible repeat (first | apply Kd.R_alloc | apply Kd.R_drewN | apply Kd.R_drew)); exact (Kd.R_mono (Kd.R_far (p := ⟨gb451, 0, none⟩) (Kd.R_types HO_412000.out BK451.out (by decide)) (fun _ hk => hk.2) (.slice Ao145 t447.length co145)) (fun _ h_ => h_.1))))); (case side4 => exact (Kd.R_reads' HO_412000.out).2.1); rintro e w172 ⟨rfl, hb⟩; refine ⟨_, rfl, ?_⟩; replace HO_412000 := Z (Kd.R_below (by (with_reducible repeat (first | apply Kd.R_alloc | apply Kd.R_drewN | apply Kd.R_drew)); exact (Kd.R_mono (Kd.R_far (p := ⟨gb451, 0, none⟩) (Kd.R_types HO_412000.out BK451.out (by decide)) (fun _ hk => hk.2) (.slice Ao145 t447.length co145)) (fun _ h_ => h_.1))) hb); replace HO_416000 := Z (Kd.R_below (by (with_reducible repeat (first | apply Kd.R_alloc | apply Kd.R_drewN | apply Kd.R_drew)); exact (Kd.R_mono (Kd.R_far (p := ⟨gb451, 0, none⟩) (Kd.R_types HO_416000.out BK451.out (by decide)) (fun _ hk => hk.2) (.slice Ao145 t447.length co145)) (fun _ h_ => h_.1))) hb); replace HO_424000 := Z (Kd.R_below (by (with_reducible repeat (first | apply Kd.R_alloc | apply Kd.R_drewN | apply Kd.R_drew)); exact (Kd.R_mono (Kd.R_far (p := ⟨gb451, 0, none⟩) (Kd.R_types HO_424000.out BK451.out (by decide)) (fun _ hk => hk.2) (.slice Ao145 t447.length co145)) (fun _ h_ => h_.1))) hb); replace HO443 := Z (Kd.R_below (by (with_reducible repeat (first | apply Kd.R_alloc | apply Kd.R_drewN | apply Kd.R_drew)); exact (Kd.R_mono (Kd.R_far (p := ⟨gb451, 0, none⟩) (Kd.R_types HO443.out BK451.out (by decide)) (fun _ hk => hk.2) (.slice Ao145 t447.length co145)) (fun _ h_ => h_.1))) hb); replace HO446 := Z (Kd.R_below (by (with_reducible repeat (first | apply Kd.R_alloc | apply Kd.R_drewN | apply Kd.R_drew)); exact (Kd.R_mono (Kd.R_far (p := ⟨gb451, 0, none⟩) (Kd.R_types HO446.out BK451.out (by decide)) (fun _ hk => hk.2) (.slice Ao145 t447.length co145)) (fun _ h_ => h_.1))) hb); replace HO449 := Z (Kd.R_below (by (with_reducible repeat (first | apply Kd.R_alloc | apply Kd.R_drewN | apply Kd.R_drew)); exact (Kd.R_mono (Kd.R_far (p := ⟨gb451, 0, none⟩) (Kd.R_types HO449.out BK451.out (by decide)) (fun _ hk => hk.2) (.slice Ao145 t447.length co145)) (fun _ h_ => h_.1))) hb); replace BK398 := Z (blk_below (g := gb398) (o := .cells #[.slice A0_0 l0_0.length c0_0] 42 (0, 0)) (Z34 BK398) hb); replace BK411 := Z (blk_below (g := gb411) (o := .cells #[.slice Ao33 t407.length co33] 34 (0, 0)) (Z35 BK411) hb); replace BK415 := Z (blk_below (g := gb415) (o := .cells #[.slice Ao39 t434.length co39] 34 (0, 0)) (Z36 BK415) hb); replace BK423 := Z (blk_below (g := gb423) (o := .cells #[.slice Ao48 t419.length co48] 34 (0, 0)) (Z37 BK423) hb); replace BK451 := Z (blk_below (g := gb451) (o := .cells #[.slice Ao145 t447.length co145] 34 (0, 0)) (Z18 BK451) hb); replace HB := Z (below_step Z42 hb); (try clear hb); (try clear hb2); (try clear hk); (try clear hi)))
               go_meet
               case rel => exact ⟨_, (true), Z3, H', ⟨Z38⟩, ⟨(Z39 HO_412000)⟩, ⟨(Z39 HO_416000)⟩, ⟨(Z39 HO_424000)⟩, ⟨(Z40 HO449)⟩, ⟨(Z41 BK398)⟩, ⟨(Z41 BK411)⟩, ⟨(Z41 BK415)⟩, ⟨(Z41 BK423)⟩, ⟨(Z41 BK451)⟩, ⟨Z42⟩⟩
             case rest =>
              clear HC128
              try clear c1
              try clear c2
              try clear p2
              try clear c3
              try clear c4
              try clear c5
              try clear c5b0
              try clear c6
              try clear c7
              try clear c8
              try clear c9
              try clear c10
              try clear c10b0
              try clear c11
              try clear c12
              try clear c13
              try clear c14
              try clear c15
              try clear c16
              try clear c17
              try clear c24
              try clear c27
              try clear c28
              try clear c29
              try clear c31
              try clear c34
              try clear c40
              try clear c41
              try clear c44
              try clear c45
              try clear c46
              try clear c47
              try clear c48
              try clear c49
              try clear c50
              try clear c51
              try clear c54
              try clear c55
              try clear c56
              try clear c57
              try clear c59
              try clear c60
              try clear c63
              try clear c64
              try clear c65
              try clear c67
              try clear c68
              try clear c71
              try clear c74
              try clear c77
              try clear c88
              try clear c89
              try clear c90
              try clear c94
              try clear c94b0
              try clear c96
              try clear c97
              try clear c98
              try clear c99
              try clear c101
              try clear c102
              try clear c105
              try clear c106
              try clear c107
              try clear c109
              try clear c110
              try clear c113
              try clear c116
              try clear c116b0
              try clear c117
              try clear c118
              try clear c119
              try clear c124
              try clear c124b0
              try clear c124b1
              try clear c129
              try clear c130
              try clear c131
              try clear c136
              try clear c137
              try clear c146
              try clear c147
              try clear c148
              try clear c149
              try clear c152
              try clear c153
              try clear c154
              try clear c155
              try clear c156
              try clear c158
              try clear c159
              try clear c160
              try clear c163
              try clear c164
              try clear c165
              try clear c166
              try clear c168
              try clear c169
              try clear c170
              try clear hcz100_0
              try clear hcz103_0
              try clear hcz108_0
              try clear hcz111_0
              try clear hcz120_0
              try clear hcz122_0
              try clear hcz12_0
              try clear hcz132_0
              try clear hcz134_0
              try clear hcz138_0
              try clear hcz150_0
              try clear hcz157_0
              try clear hcz161_0
              try clear hcz167_0
              try clear hcz171_0
              try clear hcz23_0
              try clear hcz26_0
              try clear hcz35_0
              try clear hcz36_0
              try clear hcz42_0
              try clear hcz44_0
              try clear hcz52_0
              try clear hcz58_0
              try clear hcz61_0
              try clear hcz66_0
              try clear hcz69_0
              try clear hcz7_0
              try clear hcz91_0
              try clear hfz100_0
              try clear hfz103_0
              try clear hfz108_0
              try clear hfz111_0
              try clear hfz120_0
              try clear hfz122_0
              try clear hfz12_0
              try clear hfz132_0
              try clear hfz134_0
              try clear hfz138_0
              try clear hfz150_0
              try clear hfz157_0
              try clear hfz161_0
              try clear hfz167_0
              try clear hfz171_0
              try clear hfz23_0
              try clear hfz26_0
              try clear hfz35_0
              try clear hfz36_0
              try clear hfz42_0
              try clear hfz44_0
              try clear hfz52_0
              try clear hfz58_0
              try clear hfz61_0
              try clear hfz66_0
              try clear hfz69_0
              try clear hfz7_0
              try clear hfz91_0
              try clear p2
              obtain ⟨kq, x115_127, rfl, HA, HJ127, HO_412000, HO_416000, HO_424000, HO_452000, BK398, BK411, BK415, BK423, BK451, HB⟩ := hcut
              have hl424000_127 := (Kd.R_reads' HO_424000.out).1
              rw [hl424000_127] at HO_424000
              (try simp only [hl424000_127])
              (try simp only [hl424000_127] at BK398)
              (try simp only [hl424000_127] at BK411)
              (try simp only [hl424000_127] at BK415)
              (try simp only [hl424000_127] at BK423)
              (try simp only [hl424000_127] at BK451)
              (try simp only [hl424000_127] at HO_412000)
              (try simp only [hl424000_127] at HO_416000)
              (try simp only [hl424000_127] at HO_452000)
              cases kq with
              | zero => exact absurd HA.out (by simp [laws_FnExactPutItems.j2])
              | succ kj127 =>
               have H := HA.out
               clear HA
               simp only [laws_FnExactPutItems.j2] at H
               by_cases c173 : x115_127 = true
               ·subst c173
                have H1 : (some false) = some r := Z7
                clear H
                have H := H1
                clear H1
                obtain rfl := Option.some.inj H
                go_wp2
                go_ret
                exact ⟨Z13, Z42⟩
               ·replace c173 := Bool.eq_false_iff.mpr c173
                subst c173
                have H1 : ((laws_heldStore.f kj127 t439 1).bind fun t453 => (if t453 < 0 then (some false) else (if t453 = t438 then (some true) else (some false)))) = some r := by rw [if_neg (show ¬ (false = true) by decide)] at H; exact H
                clear H
                have H := H1
                clear H1
                replace H := Option.bind_eq_some_iff.mp H
                obtain ⟨t453, A1740, H⟩ := H
                replace H : (if t453 < 0 then (some false) else (if t453 = t438 then (some true) else (some false))) = some r := H
                have A174 := Aside0.mk A1740
                clear A1740
                by_cases c175 : t453 < 0
                ·rw [if_pos c175] at H
                 have c175b0 : decide (t453 < 0) = true := decide_eq_true c175
                 clear c175
                 obtain rfl := Option.some.inj H
                 have hnb176 := NB423_398.out
                 have hnc176 := NB398_423.out
                 have hnb177 := NB423_411.out
                 have hnc177 := NB411_423.out
                 have hnb178 := NB423_415.out
                 have hnc178 := NB415_423.out
                 have hnb179 := NB423_451.out
                 have hnc179 := NB451_423.out
                 have hcz180_0 : wc.cell? ⟨gb423, 0, none⟩ = some (.slice Ao48 t439.length co48) := (blk_cell BK423.out 0).trans rfl
                 have hfz180_0 := blk_frozen BK423.out 0
                 go_wp2_with (first | ((with_reducible refine gate_callee (f := 28) rfl ?_); refine goesL_ (some 118) rfl rfl Try.func28 Z0 rfl #[.agg #[.slice Ao48 t439.length co48], .int .i64 1] rfl Z11 ?_; (with_reducible refine (laws_heldStore.calls kj127 _ _ t439 1 t453 _ ?side1 ?side2 A174.out).mono ?_); (case side1 => exact (Z21 HO_424000)); (case side2 => exact (Kd.R_reads' HO_424000.out).2.1); rintro e w181 ⟨rfl, hb⟩; refine ⟨_, rfl, ?_⟩; replace HO_412000 := Z (Kd.R_below (Z14 HO_412000) hb); replace HO_416000 := Z (Kd.R_below (Z14 HO_416000) hb); replace HO_424000 := Z (Kd.R_below (Z14 HO_424000) hb); replace HO_452000 := Z (Kd.R_below (Z14 HO_452000) hb); replace BK398 := Z (blk_below (g := gb398) (o := .cells #[.slice A0_0 l0_0.length c0_0] 42 (0, 0)) (Z10 BK398) hb); replace BK411 := Z (blk_below (g := gb411) (o := .cells #[.slice Ao33 t407.length co33] 34 (0, 0)) (Z10 BK411) hb); replace BK415 := Z (blk_below (g := gb415) (o := .cells #[.slice Ao39 t434.length co39] 34 (0, 0)) (Z10 BK415) hb); replace BK423 := Z (blk_below (g := gb423) (o := .cells #[.slice Ao48 t439.length co48] 34 (0, 0)) (Z10 BK423) hb); replace BK451 := Z (blk_below (g := gb451) (o := .cells #[.slice Ao145 t447.length co145] 34 (0, 0)) (Z10 BK451) hb); replace HB := Z (below_step Z42 hb); (try clear hb); (try clear hb2); (try clear hk); (try clear hi)))
                 go_ret
                 exact ⟨Z13, Z42⟩
                ·rw [if_neg c175] at H
                 have c175b0 : decide (t453 < 0) = false := decide_eq_false c175
                 clear c175
                 by_cases c182 : t453 = t438
                 ·rw [if_pos c182] at H
                  have c182b0 : (t453 == t438) = true := beq_iff_eq.mpr c182
                  have c182b1 : (t453 != t438) = false := bne_eq_false_iff_eq.mpr c182
                  clear c182
                  obtain rfl := Option.some.inj H
                  have hnb183 := NB423_398.out
                  have hnc183 := NB398_423.out
                  have hnb184 := NB423_411.out
                  have hnc184 := NB411_423.out
                  have hnb185 := NB423_415.out
                  have hnc185 := NB415_423.out
                  have hnb186 := NB423_451.out
                  have hnc186 := NB451_423.out
                  have hcz187_0 : wc.cell? ⟨gb423, 0, none⟩ = some (.slice Ao48 t439.length co48) := (blk_cell BK423.out 0).trans rfl
                  have hfz187_0 := blk_frozen BK423.out 0
                  go_wp2_with (first | ((with_reducible refine gate_callee (f := 28) rfl ?_); refine goesL_ (some 118) rfl rfl Try.func28 Z0 rfl #[.agg #[.slice Ao48 t439.length co48], .int .i64 1] rfl Z11 ?_; (with_reducible refine (laws_heldStore.calls kj127 _ _ t439 1 t453 _ ?side1 ?side2 A174.out).mono ?_); (case side1 => exact (Z21 HO_424000)); (case side2 => exact (Kd.R_reads' HO_424000.out).2.1); rintro e w188 ⟨rfl, hb⟩; refine ⟨_, rfl, ?_⟩; replace HO_412000 := Z (Kd.R_below (Z14 HO_412000) hb); replace HO_416000 := Z (Kd.R_below (Z14 HO_416000) hb); replace HO_424000 := Z (Kd.R_below (Z14 HO_424000) hb); replace HO_452000 := Z (Kd.R_below (Z14 HO_452000) hb); replace BK398 := Z (blk_below (g := gb398) (o := .cells #[.slice A0_0 l0_0.length c0_0] 42 (0, 0)) (Z10 BK398) hb); replace BK411 := Z (blk_below (g := gb411) (o := .cells #[.slice Ao33 t407.length co33] 34 (0, 0)) (Z10 BK411) hb); replace BK415 := Z (blk_below (g := gb415) (o := .cells #[.slice Ao39 t434.length co39] 34 (0, 0)) (Z10 BK415) hb); replace BK423 := Z (blk_below (g := gb423) (o := .cells #[.slice Ao48 t439.length co48] 34 (0, 0)) (Z10 BK423) hb); replace BK451 := Z (blk_below (g := gb451) (o := .cells #[.slice Ao145 t447.length co145] 34 (0, 0)) (Z10 BK451) hb); replace HB := Z (below_step Z42 hb); (try clear hb); (try clear hb2); (try clear hk); (try clear hi)))
                  go_ret
                  exact ⟨Z13, Z42⟩
                 ·rw [if_neg c182] at H
                  have c182b0 : (t453 == t438) = false := beq_eq_false_iff_ne.mpr c182
                  have c182b1 : (t453 != t438) = true := bne_iff_ne.mpr c182
                  obtain rfl := Option.some.inj H
                  have hnb189 := NB423_398.out
                  have hnc189 := NB398_423.out
                  have hnb190 := NB423_411.out
                  have hnc190 := NB411_423.out
                  have hnb191 := NB423_415.out
                  have hnc191 := NB415_423.out
                  have hnb192 := NB423_451.out
                  have hnc192 := NB451_423.out
                  have hcz193_0 : wc.cell? ⟨gb423, 0, none⟩ = some (.slice Ao48 t439.length co48) := (blk_cell BK423.out 0).trans rfl
                  have hfz193_0 := blk_frozen BK423.out 0
                  go_wp2_with (first | ((with_reducible refine gate_callee (f := 28) rfl ?_); refine goesL_ (some 118) rfl rfl Try.func28 Z0 rfl #[.agg #[.slice Ao48 t439.length co48], .int .i64 1] rfl Z11 ?_; (with_reducible refine (laws_heldStore.calls kj127 _ _ t439 1 t453 _ ?side1 ?side2 A174.out).mono ?_); (case side1 => exact (Z21 HO_424000)); (case side2 => exact (Kd.R_reads' HO_424000.out).2.1); rintro e w194 ⟨rfl, hb⟩; refine ⟨_, rfl, ?_⟩; replace HO_412000 := Z (Kd.R_below (Z14 HO_412000) hb); replace HO_416000 := Z (Kd.R_below (Z14 HO_416000) hb); replace HO_424000 := Z (Kd.R_below (Z14 HO_424000) hb); replace HO_452000 := Z (Kd.R_below (Z14 HO_452000) hb); replace BK398 := Z (blk_below (g := gb398) (o := .cells #[.slice A0_0 l0_0.length c0_0] 42 (0, 0)) (Z10 BK398) hb); replace BK411 := Z (blk_below (g := gb411) (o := .cells #[.slice Ao33 t407.length co33] 34 (0, 0)) (Z10 BK411) hb); replace BK415 := Z (blk_below (g := gb415) (o := .cells #[.slice Ao39 t434.length co39] 34 (0, 0)) (Z10 BK415) hb); replace BK423 := Z (blk_below (g := gb423) (o := .cells #[.slice Ao48 t439.length co48] 34 (0, 0)) (Z10 BK423) hb); replace BK451 := Z (blk_below (g := gb451) (o := .cells #[.slice Ao145 t447.length co145] 34 (0, 0)) (Z10 BK451) hb); replace HB := Z (below_step Z42 hb); (try clear hb); (try clear hb2); (try clear hk); (try clear hi)))
                  go_ret
                  exact ⟨Z13, Z42⟩
            ·rw [if_neg c124] at H
             have c124b0 : (t440 == t438) = false := beq_eq_false_iff_ne.mpr c124
             have c124b1 : (t440 != t438) = true := bne_iff_ne.mpr c124
             obtain rfl := Option.some.inj H
             have hnb195 := NB423_398.out
             have hnc195 := NB398_423.out
             have hnb196 := NB423_411.out
             have hnc196 := NB411_423.out
             have hnb197 := NB423_415.out
             have hnc197 := NB415_423.out
             have hcz198_0 : wc.cell? ⟨gb423, 0, none⟩ = some (.slice Ao48 t419.length co48) := (blk_cell BK423.out 0).trans rfl
             have hfz198_0 := blk_frozen BK423.out 0
             go_wp2_with (first | ((with_reducible refine gate_callee (f := 27) rfl ?_); refine goesL_ (some 89) rfl rfl Try.func27 Z0 rfl #[.agg #[.slice Ao48 t419.length co48], .int .i64 1] rfl Z11 ?_; (with_reducible refine (laws_markStore.calls kj79 (fun k_ => some k_ = (.slice Ao48 t419.length co48 : Value).ownBlock) (.slice Ao48 t419.length co48) t419 1 t438 t439 w _ ?side1 ?side2 A114.out).mono ?_); (case side1 => exact Z42); (case side2 => exact Kd.R_tight rfl HO_424000.out); rintro e w199 ⟨rfl, hy0, hb, hkp⟩; refine ⟨_, rfl, ?_⟩; replace HO_412000 := Z (Kd.R_mono (ok' := fun k_ => some k_ ≠ (.slice Ao39 t434.length co39 : Value).ownBlock ∧ some k_ ≠ (.slice Ao48 t419.length co48 : Value).ownBlock) (Kd.R_keptB (HO_412000.out) hkp (fun k_ hk_ hs_ => (hk_.2) hs_)) (fun k_ hk_ => ⟨hk_.1.1, hk_.1.2⟩)); replace HO_416000 := Z (Kd.R_mono (ok' := fun k_ => some k_ ≠ (.slice Ao33 t407.length co33 : Value).ownBlock ∧ some k_ ≠ (.slice Ao48 t419.length co48 : Value).ownBlock) (Kd.R_keptB (HO_416000.out) hkp (fun k_ hk_ hs_ => (hk_.2) hs_)) (fun k_ hk_ => ⟨hk_.1.1, hk_.1.2⟩)); replace BK398 := Z (blk_kept (g := gb398) (o := .cells #[.slice A0_0 l0_0.length c0_0] 42 (0, 0)) (Z10 BK398) hkp (fun hs_ => (fun e_ => (Kd.R_ne HO_424000.out BK398.out (by decide)) e_) hs_)); replace BK411 := Z (blk_kept (g := gb411) (o := .cells #[.slice Ao33 t407.length co33] 34 (0, 0)) (Z10 BK411) hkp (fun hs_ => (fun e_ => (Kd.R_ne HO_424000.out BK411.out (by decide)) e_) hs_)); replace BK415 := Z (blk_kept (g := gb415) (o := .cells #[.slice Ao39 t434.length co39] 34 (0, 0)) (Z10 BK415) hkp (fun hs_ => (fun e_ => (Kd.R_ne HO_424000.out BK415.out (by decide)) e_) hs_)); replace BK423 := Z (blk_kept (g := gb423) (o := .cells #[.slice Ao48 t419.length co48] 34 (0, 0)) (Z10 BK423) hkp (fun hs_ => (fun e_ => (Kd.R_ne HO_424000.out BK423.out (by decide)) e_) hs_)); replace HO_424000 := Z (Kd.R_reok rfl hy0 (fun k_ e_ => HO_424000.out.1 k_ e_)); replace HB := Z (hb); (try clear hb); (try clear hkp); (try clear hy0); have hcz200_0 : w199.cell? ⟨gb423, 0, none⟩ = some (.slice Ao48 t419.length co48) := (blk_cell BK423.out 0).trans rfl; have hfz200_0 := blk_frozen BK423.out 0) | ((with_reducible refine gate_callee (f := 28) rfl ?_); refine goesL_ (some 92) rfl rfl Try.func28 Z0 rfl #[.agg #[.slice Ao48 t439.length co48], .int .i64 1] rfl (Z33 HO_424000) ?_; (with_reducible refine (laws_heldStore.calls kj79 _ _ t439 1 t440 _ ?side1 ?side2 A115.out).mono ?_); (case side1 => exact (Z21 HO_424000)); (case side2 => rw [show t439.length = t419.length from (Kd.R_reads' HO_424000.out).1.symm]; exact (Kd.R_reads' HO_424000.out).2.1); rintro e w201 ⟨rfl, hb⟩; refine ⟨_, rfl, ?_⟩; replace HO_412000 := Z (Kd.R_below (Z14 HO_412000) hb); replace HO_416000 := Z (Kd.R_below (Z14 HO_416000) hb); replace HO_424000 := Z (Kd.R_below (Z14 HO_424000) hb); replace BK398 := Z (blk_below (g := gb398) (o := .cells #[.slice A0_0 l0_0.length c0_0] 42 (0, 0)) (Z10 BK398) hb); replace BK411 := Z (blk_below (g := gb411) (o := .cells #[.slice Ao33 t407.length co33] 34 (0, 0)) (Z10 BK411) hb); replace BK415 := Z (blk_below (g := gb415) (o := .cells #[.slice Ao39 t434.length co39] 34 (0, 0)) (Z10 BK415) hb); replace BK423 := Z (blk_below (g := gb423) (o := .cells #[.slice Ao48 t419.length co48] 34 (0, 0)) (Z10 BK423) hb); replace HB := Z (below_step Z42 hb); (try clear hb); (try clear hb2); (try clear hk); (try clear hi)))
             go_ret
             exact ⟨Z13, Z42⟩
       ·replace c77 := Bool.eq_false_iff.mpr c77
        subst c77
        have H1 : (some false) = some r := by rw [if_neg (show ¬ (false = true) by decide)] at H; exact H
        clear H
        have H := H1
        clear H1
        obtain rfl := Option.some.inj H
        try go_wp2
        have n0_ := Z (Kd.R_drew HO_11.out)
        have n1_ := Z (Kd.R_drew HO_412000.out)
        have n2_ := Z (Kd.R_drew HO_416000.out)
        have n3_ := Z (Kd.R_drew HO_424000.out)
        have n4_ := Z (blk_drew BK398.out)
        have n5_ := Z (blk_drew BK411.out)
        have n6_ := Z (blk_drew BK415.out)
        have n7_ := Z (blk_drew BK423.out)
        have n8_ := Z (below_drew1 HB.out)
        clear HO_11
        clear HO_412000
        clear HO_416000
        clear HO_424000
        clear BK398
        clear BK411
        clear BK415
        clear BK423
        clear HB
        have HO_11 := n0_
        have HO_412000 := n1_
        have HO_416000 := n2_
        have HO_424000 := n3_
        have BK398 := n4_
        have BK411 := n5_
        have BK415 := n6_
        have BK423 := n7_
        have HB := n8_
        clear n0_ n1_ n2_ n3_ n4_ n5_ n6_ n7_ n8_
        refine start_ (n := 5) (S := fun w' => w'.cell? ⟨gb415, 0, none⟩ = some (.slice Ao39 t412.length co39) ∧ w'.cell? ⟨gb398, 0, none⟩ = some (.slice A0_0 l0_0.length c0_0)) (ds := []) #[false, false, false, false, false] Z0 rfl rfl ⟨(blk_cell BK415.out 0).trans rfl, (blk_cell BK398.out 0).trans rfl⟩ (fun hHeld => ?_)
        generalize wc.drew = w202 at HO_11 HO_412000 HO_416000 HO_424000 BK398 BK411 BK415 BK423 HB hHeld ⊢
        refine take_ (i := 0) (N := some 58) (v := ?_) (a' := ?_) #[true, false, false, false, false] rfl rfl Z0 (fun _ _ _ h => h) (Or.inl ⟨by rfl, ?_⟩) hHeld ?_ ?_
        rotate_left
        ·rintro w' ⟨s0, s1⟩
         go_simp
         with_reducible rfl
        rotate_left
        ·simp only [Act.put, List.setIfInBounds_toArray, List.set_cons_zero, List.set_cons_succ, i64_w, i32_w]
         rfl
        refine take_ (i := 1) (N := some 59) (v := ?_) (a' := ?_) #[true, true, false, false, false] rfl rfl Z0 (fun _ _ _ h => h) (Or.inl ⟨by rfl, ?_⟩) hHeld ?_ ?_
        rotate_left
        ·rintro w' ⟨s0, s1⟩
         go_simp
         with_reducible rfl
        rotate_left
        ·simp only [Act.put, List.setIfInBounds_toArray, List.set_cons_zero, List.set_cons_succ, i64_w, i32_w]
         rfl
        refine one_ (i := 2) (N := some 60) #[true, true, true, false, false] rfl rfl Z0 (by decide) (fun K hK => ?_)
        refine goes_ Try.func31 Z0 rfl #[.agg #[.slice A0_0 l0_0.length c0_0]] (by rfl) rfl rfl Z11 ?_
        with_reducible refine (laws_toStore.calls kj20 _ _ l0_0 t425 _ ?side1 ?side2 A72.out).mono ?_
        (case side1 => exact (Z12 HR0_0))
        (case side2 => exact HC0_0.out)
        rintro e w203 ⟨v426, rfl, ho0, hb⟩
        refine ⟨_, rfl, ?_⟩
        have n0_ := Z (Kd.R_below (Z14 HO_11) hb)
        have n1_ := Z (Kd.R_elder' (Z14 HO_412000) (Kd.R_base ho0) hb)
        have n2_ := Z (Kd.R_elder' (Z14 HO_416000) (Kd.R_base ho0) hb)
        have n3_ := Z (Kd.R_elder' (Z14 HO_424000) (Kd.R_base ho0) hb)
        have n4_ := Z (Kd.R_lower (Kd.R_new' (Kd.R_new' (Kd.R_new' ho0 (Kd.R_lt (Z14 HO_412000))) (Kd.R_lt (Z14 HO_416000))) (Kd.R_lt (Z14 HO_424000))) (below_size Z42))
        have n5_ := Z (blk_below (g := gb398) (o := .cells #[.slice A0_0 l0_0.length c0_0] 42 (0, 0)) (Z10 BK398) hb)
        have n6_ := Z (blk_below (g := gb411) (o := .cells #[.slice Ao33 t407.length co33] 34 (0, 0)) (Z10 BK411) hb)
        have n7_ := Z (blk_below (g := gb415) (o := .cells #[.slice Ao39 t412.length co39] 34 (0, 0)) (Z10 BK415) hb)
        have n8_ := Z (blk_below (g := gb423) (o := .cells #[.slice Ao48 t419.length co48] 34 (0, 0)) (Z10 BK423) hb)
        have n9_ := Z (below_step Z42 hb)
        clear HO_11
        clear HO_412000
        clear HO_416000
        clear HO_424000
        clear BK398
        clear BK411
        clear BK415
        clear BK423
        clear HB
        have HO_11 := n0_
        have HO_412000 := n1_
        have HO_416000 := n2_
        have HO_424000 := n3_
        have HO427 := n4_
        have BK398 := n5_
        have BK411 := n6_
        have BK415 := n7_
        have BK423 := n8_
        have HB := n9_
        clear n0_ n1_ n2_ n3_ n4_ n5_ n6_ n7_ n8_ n9_
        (try clear hb)
        (try clear hb2)
        (try clear hk)
        (try clear hi)
        (try clear ho0)
        obtain ⟨Ao204, co204, eo204⟩ := Kd.R_slice HO427.out
        (first | subst eo204 | (injection eo204 with f1_ f2_ f3_; have f4_ := f1_.symm; have f5_ := f3_.symm; clear f1_ f2_ f3_; subst f4_; subst f5_))
        refine hK.out _ _ ⟨(blk_cell BK415.out 0).trans rfl, (blk_cell BK398.out 0).trans rfl⟩ (fun hHeld => ?_)
        clear hK K
        refine norm_ (a' := ?_) ?_ ?_
        rotate_left
        ·show Act.put _ (some 60) _ = _
         simp only [Act.put, List.setIfInBounds_toArray, List.set_cons_zero, List.set_cons_succ, i64_w, i32_w]
         rfl
        refine one_ (i := 3) (N := some 61) #[true, true, true, true, false] rfl rfl Z0 (by decide) (fun K hK => ?_)
        refine goes_ Try.func24 Z0 rfl #[.agg #[.slice Ao39 t412.length co39], .agg #[.slice Ao204 t425.length co204]] (by rfl) rfl rfl Z11 ?_
        with_reducible refine (laws_eqStore.calls kj20 _ _ t412 _ _ t425 true _ ?side1 ?side2 ?side3 ?side4 A73.out).mono ?_
        (case side1 => exact (Z21 HO_416000))
        (case side2 => exact (Kd.R_reads' HO_416000.out).2.1)
        (case side3 => exact (Z21 HO427))
        (case side4 => exact (Kd.R_reads' HO427.out).2.1)
        rintro e w205 ⟨rfl, hb⟩
        refine ⟨_, rfl, ?_⟩
        have n0_ := Z (Kd.R_below (Z14 HO_11) hb)
        have n1_ := Z (Kd.R_below (Z14 HO_412000) hb)
        have n2_ := Z (Kd.R_below (Z14 HO_416000) hb)
        have n3_ := Z (Kd.R_below (Z14 HO_424000) hb)
        have n4_ := Z (Kd.R_below (Z14 HO427) hb)
        have n5_ := Z (blk_below (g := gb398) (o := .cells #[.slice A0_0 l0_0.length c0_0] 42 (0, 0)) (Z10 BK398) hb)
        have n6_ := Z (blk_below (g := gb411) (o := .cells #[.slice Ao33 t407.length co33] 34 (0, 0)) (Z10 BK411) hb)
        have n7_ := Z (blk_below (g := gb415) (o := .cells #[.slice Ao39 t412.length co39] 34 (0, 0)) (Z10 BK415) hb)
        have n8_ := Z (blk_below (g := gb423) (o := .cells #[.slice Ao48 t419.length co48] 34 (0, 0)) (Z10 BK423) hb)
        have n9_ := Z (below_step Z42 hb)
        clear HO_11
        clear HO_412000
        clear HO_416000
        clear HO_424000
        clear HO427
        clear BK398
        clear BK411
        clear BK415
        clear BK423
        clear HB
        have HO_11 := n0_
        have HO_412000 := n1_
        have HO_416000 := n2_
        have HO_424000 := n3_
        have HO427 := n4_
        have BK398 := n5_
        have BK411 := n6_
        have BK415 := n7_
        have BK423 := n8_
        have HB := n9_
        clear n0_ n1_ n2_ n3_ n4_ n5_ n6_ n7_ n8_ n9_
        (try clear hb)
        (try clear hb2)
        (try clear hk)
        (try clear hi)
        refine hK.out _ _ ⟨(blk_cell BK415.out 0).trans rfl, (blk_cell BK398.out 0).trans rfl⟩ (fun hHeld => ?_)
        clear hK K
        refine norm_ (a' := ?_) ?_ ?_
        rotate_left
        ·show Act.put _ (some 61) _ = _
         simp only [Act.put, List.setIfInBounds_toArray, List.set_cons_zero, List.set_cons_succ, i64_w, i32_w]
         rfl
        refine pure_ (i := 4) (N := some 62) (v := ?_) (a' := ?_) #[true, true, true, true, true] rfl rfl Z0 (fun _ _ _ h => h) (Or.inl ⟨by rfl, ?_⟩) ?_ ?_
        rotate_left
        ·intro w'
         go_simp
         with_reducible rfl
        rotate_left
        ·simp only [Act.put, List.setIfInBounds_toArray, List.set_cons_zero, List.set_cons_succ, i64_w, i32_w]
         rfl
        refine done_ Z0 ?_
        try go_wp2_with (first | ((with_reducible refine gate_callee (f := 46) rfl ?_); refine goesL_ (some 65) rfl rfl Try.func46 Z0 rfl #[.slice A2 l2.length c2] rfl Z11 ?_; (with_reducible refine (laws_toItemS.calls kj20 _ _ l2 t429 _ ?side1 ?side2 A75.out).mono ?_); (case side1 => exact (Z12 HR2)); (case side2 => exact HC2.out); rintro e w206 ⟨v430, rfl, ho0, hb⟩; refine ⟨_, rfl, ?_⟩; replace HO_412000 := Z (Kd.R_below (Z14 HO_412000) hb); replace HO_416000 := Z (Kd.R_below (Z14 HO_416000) hb); replace HO_424000 := Z (Kd.R_below (Z14 HO_424000) hb); replace HO427 := Z (Kd.R_below (Z14 HO427) hb); have HO431 := Z (Kd.R_lower (Kd.R_new' ho0 (Kd.R_lt (Z14 HO_11))) (below_size Z42)); replace HO_11 := Z (Kd.R_elder' (Z14 HO_11) (Kd.R_base ho0) hb); replace BK398 := Z (blk_below (g := gb398) (o := .cells #[.slice A0_0 l0_0.length c0_0] 42 (0, 0)) (Z10 BK398) hb); replace BK411 := Z (blk_below (g := gb411) (o := .cells #[.slice Ao33 t407.length co33] 34 (0, 0)) (Z10 BK411) hb); replace BK415 := Z (blk_below (g := gb415) (o := .cells #[.slice Ao39 t412.length co39] 34 (0, 0)) (Z10 BK415) hb); replace BK423 := Z (blk_below (g := gb423) (o := .cells #[.slice Ao48 t419.length co48] 34 (0, 0)) (Z10 BK423) hb); replace HB := Z (below_step Z42 hb); (try clear hb); (try clear hb2); (try clear hk); (try clear hi); (try clear ho0); obtain ⟨Ao207, co207, eo207⟩ := Kd.R_slice HO431.out; subst eo207) | ((with_reducible refine gate_callee (f := 48) rfl ?_); refine goesL_ (some 66) rfl rfl Try.func48 Z0 rfl #[.slice Ao45 t416.length co45, .slice Ao207 t429.length co207] rfl Z11 ?_; (with_reducible refine (laws_eqItemS.calls kj20 _ _ t416 _ _ t429 false _ ?side1 ?side2 ?side3 ?side4 A76.out).mono ?_); (case side1 => exact (Z21 HO_11)); (case side2 => exact (Kd.R_reads' HO_11.out).2.1); (case side3 => exact (Z21 HO431)); (case side4 => exact (Kd.R_reads' HO431.out).2.1); rintro e w208 ⟨rfl, hb⟩; refine ⟨_, rfl, ?_⟩; replace HO_11 := Z (Kd.R_below (Z14 HO_11) hb); replace HO_412000 := Z (Kd.R_below (Z14 HO_412000) hb); replace HO_416000 := Z (Kd.R_below (Z14 HO_416000) hb); replace HO_424000 := Z (Kd.R_below (Z14 HO_424000) hb); replace HO427 := Z (Kd.R_below (Z14 HO427) hb); replace HO431 := Z (Kd.R_below (Z14 HO431) hb); replace BK398 := Z (blk_below (g := gb398) (o := .cells #[.slice A0_0 l0_0.length c0_0] 42 (0, 0)) (Z10 BK398) hb); replace BK411 := Z (blk_below (g := gb411) (o := .cells #[.slice Ao33 t407.length co33] 34 (0, 0)) (Z10 BK411) hb); replace BK415 := Z (blk_below (g := gb415) (o := .cells #[.slice Ao39 t412.length co39] 34 (0, 0)) (Z10 BK415) hb); replace BK423 := Z (blk_below (g := gb423) (o := .cells #[.slice Ao48 t419.length co48] 34 (0, 0)) (Z10 BK423) hb); replace HB := Z (below_step Z42 hb); (try clear hb); (try clear hb2); (try clear hk); (try clear hi)))
        go_ret
        exact ⟨Z13, Z42⟩
      ·replace c74 := Bool.eq_false_iff.mpr c74
       subst c74
       have H1 : (some false) = some r := by rw [if_neg (show ¬ (false = true) by decide)] at H; exact H
       clear H
       have H := H1
       clear H1
       obtain rfl := Option.some.inj H
       try go_wp2
       have n0_ := Z (Kd.R_drew HO_11.out)
       have n1_ := Z (Kd.R_drew HO_412000.out)
       have n2_ := Z (Kd.R_drew HO_416000.out)
       have n3_ := Z (Kd.R_drew HO_424000.out)
       have n4_ := Z (blk_drew BK398.out)
       have n5_ := Z (blk_drew BK411.out)
       have n6_ := Z (blk_drew BK415.out)
       have n7_ := Z (blk_drew BK423.out)
       have n8_ := Z (below_drew1 HB.out)
       clear HO_11
       clear HO_412000
       clear HO_416000
       clear HO_424000
       clear BK398
       clear BK411
       clear BK415
       clear BK423
       clear HB
       have HO_11 := n0_
       have HO_412000 := n1_
       have HO_416000 := n2_
       have HO_424000 := n3_
       have BK398 := n4_
       have BK411 := n5_
       have BK415 := n6_
       have BK423 := n7_
       have HB := n8_
       clear n0_ n1_ n2_ n3_ n4_ n5_ n6_ n7_ n8_
       refine start_ (n := 5) (S := fun w' => w'.cell? ⟨gb415, 0, none⟩ = some (.slice Ao39 t412.length co39) ∧ w'.cell? ⟨gb398, 0, none⟩ = some (.slice A0_0 l0_0.length c0_0)) (ds := []) #[false, false, false, false, false] Z0 rfl rfl ⟨(blk_cell BK415.out 0).trans rfl, (blk_cell BK398.out 0).trans rfl⟩ (fun hHeld => ?_)
       generalize wc.drew = w209 at HO_11 HO_412000 HO_416000 HO_424000 BK398 BK411 BK415 BK423 HB hHeld ⊢
       refine take_ (i := 0) (N := some 58) (v := ?_) (a' := ?_) #[true, false, false, false, false] rfl rfl Z0 (fun _ _ _ h => h) (Or.inl ⟨by rfl, ?_⟩) hHeld ?_ ?_
       rotate_left
       ·rintro w' ⟨s0, s1⟩
        go_simp
        with_reducible rfl
       rotate_left
       ·simp only [Act.put, List.setIfInBounds_toArray, List.set_cons_zero, List.set_cons_succ, i64_w, i32_w]
        rfl
       refine take_ (i := 1) (N := some 59) (v := ?_) (a' := ?_) #[true, true, false, false, false] rfl rfl Z0 (fun _ _ _ h => h) (Or.inl ⟨by rfl, ?_⟩) hHeld ?_ ?_
       rotate_left
       ·rintro w' ⟨s0, s1⟩
        go_simp
        with_reducible rfl
       rotate_left
       ·simp only [Act.put, List.setIfInBounds_toArray, List.set_cons_zero, List.set_cons_succ, i64_w, i32_w]
        rfl
       refine one_ (i := 2) (N := some 60) #[true, true, true, false, false] rfl rfl Z0 (by decide) (fun K hK => ?_)
       refine goes_ Try.func31 Z0 rfl #[.agg #[.slice A0_0 l0_0.length c0_0]] (by rfl) rfl rfl Z11 ?_
       with_reducible refine (laws_toStore.calls kj20 _ _ l0_0 t425 _ ?side1 ?side2 A72.out).mono ?_
       (case side1 => exact (Z12 HR0_0))
       (case side2 => exact HC0_0.out)
       rintro e w210 ⟨v426, rfl, ho0, hb⟩
       refine ⟨_, rfl, ?_⟩
       have n0_ := Z (Kd.R_below (Z14 HO_11) hb)
       have n1_ := Z (Kd.R_elder' (Z14 HO_412000) (Kd.R_base ho0) hb)
       have n2_ := Z (Kd.R_elder' (Z14 HO_416000) (Kd.R_base ho0) hb)
       have n3_ := Z (Kd.R_elder' (Z14 HO_424000) (Kd.R_base ho0) hb)
       have n4_ := Z (Kd.R_lower (Kd.R_new' (Kd.R_new' (Kd.R_new' ho0 (Kd.R_lt (Z14 HO_412000))) (Kd.R_lt (Z14 HO_416000))) (Kd.R_lt (Z14 HO_424000))) (below_size Z42))
       have n5_ := Z (blk_below (g := gb398) (o := .cells #[.slice A0_0 l0_0.length c0_0] 42 (0, 0)) (Z10 BK398) hb)
       have n6_ := Z (blk_below (g := gb411) (o := .cells #[.slice Ao33 t407.length co33] 34 (0, 0)) (Z10 BK411) hb)
       have n7_ := Z (blk_below (g := gb415) (o := .cells #[.slice Ao39 t412.length co39] 34 (0, 0)) (Z10 BK415) hb)
       have n8_ := Z (blk_below (g := gb423) (o := .cells #[.slice Ao48 t419.length co48] 34 (0, 0)) (Z10 BK423) hb)
       have n9_ := Z (below_step Z42 hb)
       clear HO_11
       clear HO_412000
       clear HO_416000
       clear HO_424000
       clear BK398
       clear BK411
       clear BK415
       clear BK423
       clear HB
       have HO_11 := n0_
       have HO_412000 := n1_
       have HO_416000 := n2_
       have HO_424000 := n3_
       have HO427 := n4_
       have BK398 := n5_
       have BK411 := n6_
       have BK415 := n7_
       have BK423 := n8_
       have HB := n9_
       clear n0_ n1_ n2_ n3_ n4_ n5_ n6_ n7_ n8_ n9_
       (try clear hb)
       (try clear hb2)
       (try clear hk)
       (try clear hi)
       (try clear ho0)
       obtain ⟨Ao211, co211, eo211⟩ := Kd.R_slice HO427.out
       (first | subst eo211 | (injection eo211 with f1_ f2_ f3_; have f4_ := f1_.symm; have f5_ := f3_.symm; clear f1_ f2_ f3_; subst f4_; subst f5_))
       refine hK.out _ _ ⟨(blk_cell BK415.out 0).trans rfl, (blk_cell BK398.out 0).trans rfl⟩ (fun hHeld => ?_)
       clear hK K
       refine norm_ (a' := ?_) ?_ ?_
       rotate_left
       ·show Act.put _ (some 60) _ = _
        simp only [Act.put, List.setIfInBounds_toArray, List.set_cons_zero, List.set_cons_succ, i64_w, i32_w]
        rfl
       refine one_ (i := 3) (N := some 61) #[true, true, true, true, false] rfl rfl Z0 (by decide) (fun K hK => ?_)
       refine goes_ Try.func24 Z0 rfl #[.agg #[.slice Ao39 t412.length co39], .agg #[.slice Ao211 t425.length co211]] (by rfl) rfl rfl Z11 ?_
       with_reducible refine (laws_eqStore.calls kj20 _ _ t412 _ _ t425 false _ ?side1 ?side2 ?side3 ?side4 A73.out).mono ?_
       (case side1 => exact (Z21 HO_416000))
       (case side2 => exact (Kd.R_reads' HO_416000.out).2.1)
       (case side3 => exact (Z21 HO427))
       (case side4 => exact (Kd.R_reads' HO427.out).2.1)
       rintro e w212 ⟨rfl, hb⟩
       refine ⟨_, rfl, ?_⟩
       have n0_ := Z (Kd.R_below (Z14 HO_11) hb)
       have n1_ := Z (Kd.R_below (Z14 HO_412000) hb)
       have n2_ := Z (Kd.R_below (Z14 HO_416000) hb)
       have n3_ := Z (Kd.R_below (Z14 HO_424000) hb)
       have n4_ := Z (Kd.R_below (Z14 HO427) hb)
       have n5_ := Z (blk_below (g := gb398) (o := .cells #[.slice A0_0 l0_0.length c0_0] 42 (0, 0)) (Z10 BK398) hb)
       have n6_ := Z (blk_below (g := gb411) (o := .cells #[.slice Ao33 t407.length co33] 34 (0, 0)) (Z10 BK411) hb)
       have n7_ := Z (blk_below (g := gb415) (o := .cells #[.slice Ao39 t412.length co39] 34 (0, 0)) (Z10 BK415) hb)
       have n8_ := Z (blk_below (g := gb423) (o := .cells #[.slice Ao48 t419.length co48] 34 (0, 0)) (Z10 BK423) hb)
       have n9_ := Z (below_step Z42 hb)
       clear HO_11
       clear HO_412000
       clear HO_416000
       clear HO_424000
       clear HO427
       clear BK398
       clear BK411
       clear BK415
       clear BK423
       clear HB
       have HO_11 := n0_
       have HO_412000 := n1_
       have HO_416000 := n2_
       have HO_424000 := n3_
       have HO427 := n4_
       have BK398 := n5_
       have BK411 := n6_
       have BK415 := n7_
       have BK423 := n8_
       have HB := n9_
       clear n0_ n1_ n2_ n3_ n4_ n5_ n6_ n7_ n8_ n9_
       (try clear hb)
       (try clear hb2)
       (try clear hk)
       (try clear hi)
       refine hK.out _ _ ⟨(blk_cell BK415.out 0).trans rfl, (blk_cell BK398.out 0).trans rfl⟩ (fun hHeld => ?_)
       clear hK K
       refine norm_ (a' := ?_) ?_ ?_
       rotate_left
       ·show Act.put _ (some 61) _ = _
        simp only [Act.put, List.setIfInBounds_toArray, List.set_cons_zero, List.set_cons_succ, i64_w, i32_w]
        rfl
       refine pure_ (i := 4) (N := some 62) (v := ?_) (a' := ?_) #[true, true, true, true, true] rfl rfl Z0 (fun _ _ _ h => h) (Or.inl ⟨by rfl, ?_⟩) ?_ ?_
       rotate_left
       ·intro w'
        go_simp
        with_reducible rfl
       rotate_left
       ·simp only [Act.put, List.setIfInBounds_toArray, List.set_cons_zero, List.set_cons_succ, i64_w, i32_w]
        rfl
       refine done_ Z0 ?_
       try go_wp2
       go_ret
       exact ⟨Z13, Z42⟩

/-- THE ONE PURE STATEMENT of laws_FnExactPutItems. -/
def laws_FnExactPutItems.Pure : Prop := ∀ (l0_0 : List Int) (a1 : Int) (l2 : List (S49)), l0_0.length ≤ maxLen → l0_0.length * 4 ≤ 140737488351232 → (∀ x ∈ l0_0, (Lit.int .u32 x).wf = true) → (Lit.int .i64 a1).wf = true → l2.length ≤ maxLen → l2.length * 40 ≤ 140737488351232 → (∀ x ∈ l2, (Lit.int .i64 x.f0).wf = true ∧ x.f1.size ≤ 140737488351232 ∧ (Lit.int .i32 x.f2).wf = true ∧ (Lit.int .u32 x.f4).wf = true) → ∃ k, laws_FnExactPutItems.f k l0_0 a1 l2 = some true

end Go.Proofs.Ytkkiibjnpkjijaa.QFnExactPutItems
