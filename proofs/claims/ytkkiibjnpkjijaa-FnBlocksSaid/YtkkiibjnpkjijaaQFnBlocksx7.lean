/-
Plain functions for the Go functions that a law reaches, each with a proof that the translation's call comes to just that; no conditions beyond those written in each.
-/
import Derived.Test.YtkkiibjnpkjijaaSFnBlocks
import Derived.Test.YtkkiibjnpkjijaaQFnBlocksx1
import Derived.Test.YtkkiibjnpkjijaaQFnBlocksx6
namespace Go.Proofs.Ytkkiibjnpkjijaa.QFnBlocks
open Go.RowKit Go.Proofs.YtkkiibjnpkjijaaW.PrintWords Go.Proofs.YtkkiibjnpkjijaaW.PrintLast Go.Proofs.YtkkiibjnpkjijaaW.PrintMore
attribute [local go_sem] max2_int min2_int max_two min_two max_three min_three max_four min_four   -- for this text's walks alone
set_option linter.unusedVariables false
set_option linter.unusedSimpArgs false

/-! ### spec_PutBlock: function 40 -/
mutual
def spec_PutBlock.j0 : Nat → Int → List Int → Bool → List Int → Option (List Int × Bool)
 | 0, _, _, _, _ => none
 | k + 1, x1, x2, x18, x471000 => if x18 = true then (some (([] : List Int), false)) else ((some (([] : List Int) : List Int)).bind fun y473 => (if y473.length + x471000.length < 35184372088832 then (spec_PutBlock.l0 k x1 x2 (y473 ++ x471000) 0) else (none)))
def spec_PutBlock.l0 : Nat → Int → List Int → List Int → Int → Option (List Int × Bool)
 | 0, _, _, _, _ => none
 | k + 1, x1, x2, x8, x9 => if x9 < 64 then (if 0 ≤ (wrap64 ((wrap64 (x1 * 64)) + x9)) then (if (wrap64 ((wrap64 (x1 * 64)) + x9)) < (x8.length : Int) then ((some (x8.set ((wrap64 ((wrap64 (x1 * 64)) + x9)) : Int).toNat 0 : List Int)).bind fun y479 => (if x9 < (x2.length : Int) then (if 0 ≤ x9 then (spec_PutBlock.l0 k x1 x2 (y479.set ((wrap64 ((wrap64 (x1 * 64)) + x9)) : Int).toNat (rd x2 x9)) (wrap64 (x9 + 1))) else (none)) else (spec_PutBlock.l0 k x1 x2 y479 (wrap64 (x9 + 1))))) else (none)) else (none)) else (some (x8, true))
end
def spec_PutBlock.f (k : Nat) (l0_0 : List Int) (a1 : Int) (l2 : List Int) : Option (List Int × Bool) := (spec_l05Has.f l0_0 a1).bind fun t472 => (if t472 = true then (spec_PutBlock.j0 k a1 l2 (decide ((l2.length : Int) > 64)) l0_0) else (spec_PutBlock.j0 k a1 l2 true l0_0))
theorem spec_PutBlock.mono_l : ∀ k, (∀ y0 y1 y2 y3, LeO (spec_PutBlock.j0 k y0 y1 y2 y3) (spec_PutBlock.j0 (k + 1) y0 y1 y2 y3)) ∧ (∀ y0 y1 y2 y3, LeO (spec_PutBlock.l0 k y0 y1 y2 y3) (spec_PutBlock.l0 (k + 1) y0 y1 y2 y3))
 | 0 => ⟨fun _ _ _ _ r h => by simp [spec_PutBlock.j0] at h, fun _ _ _ _ r h => by simp [spec_PutBlock.l0] at h⟩
 | k + 1 => by
  obtain ⟨ih0, ih1⟩ := spec_PutBlock.mono_l k
  refine ⟨?_, ?_⟩
  ·intro y0 y1 y2 y3
   unfold spec_PutBlock.j0
   repeat' first
   | (with_reducible exact ih0 _ _ _ _)
   | (with_reducible exact ih1 _ _ _ _)
   | (with_reducible exact LeO.refl _)
   | (with_reducible exact LeO.none _)
   | (with_reducible refine LeO.ite ?_ ?_)
   | (with_reducible refine LeO.bind ?_ (fun _ => ?_))
   | exact ih0 _ _ _ _
   | exact ih1 _ _ _ _
   | exact LeO.none _
   | refine LeO.ite ?_ ?_
   | refine LeO.bind ?_ (fun _ => ?_)
  ·intro y0 y1 y2 y3
   unfold spec_PutBlock.l0
   repeat' first
   | (with_reducible exact ih0 _ _ _ _)
   | (with_reducible exact ih1 _ _ _ _)
   | (with_reducible exact LeO.refl _)
   | (with_reducible exact LeO.none _)
   | (with_reducible refine LeO.ite ?_ ?_)
   | (with_reducible refine LeO.bind ?_ (fun _ => ?_))
   | exact ih0 _ _ _ _
   | exact ih1 _ _ _ _
   | exact LeO.none _
   | refine LeO.ite ?_ ?_
   | refine LeO.bind ?_ (fun _ => ?_)
theorem spec_PutBlock.mono : ∀ a0 a1 a2 k, LeO (spec_PutBlock.f k a0 a1 a2) (spec_PutBlock.f (k + 1) a0 a1 a2) := by
 intro a0 a1 a2 k
 obtain ⟨ih0, ih1⟩ := spec_PutBlock.mono_l k
 unfold spec_PutBlock.f
 repeat' first
   | (with_reducible exact ih0 _ _ _ _)
   | (with_reducible exact ih1 _ _ _ _)
   | (with_reducible exact LeO.refl _)
   | (with_reducible exact LeO.none _)
   | (with_reducible refine LeO.ite ?_ ?_)
   | (with_reducible refine LeO.bind ?_ (fun _ => ?_))
   | exact ih0 _ _ _ _
   | exact ih1 _ _ _ _
   | exact LeO.none _
   | refine LeO.ite ?_ ?_
   | refine LeO.bind ?_ (fun _ => ?_)
set_option maxHeartbeats 8000000 in
set_option maxRecDepth 100000 in
theorem spec_PutBlock.calls (k : Nat) (A0_0 : Option Addr) (c0_0 : Nat) (l0_0 : List Int) (a1 : Int) (A2 : Option Addr) (c2 : Nat) (l2 : List Int) (r1 : List Int) (r2 : Bool) (w : World) (hr0_0 : Kd.C (Kd.int .u32) w A0_0 l0_0.length l0_0) (hc0_0 : l0_0.length ≤ c0_0) (hr2 : Kd.C (Kd.int .u32) w A2 l2.length l2) (hc2 : l2.length ≤ c2) (h : spec_PutBlock.f k l0_0 a1 l2 = some (r1, r2)) :
  Calls Try.prog 40 #[.agg #[.slice A0_0 l0_0.length c0_0], .int .i64 a1, .slice A2 l2.length c2] w fun e w' => ∃ v0_ : Value, e = .returned (.tuple #[.agg #[v0_], .bool r2]) ∧ Kd.R (Kd.int .u32) 47 w' w.heap.size (fun _ => True) v0_ r1 ∧ Below w.heap.size w w' := by
 have hu34 := Try.underlying34
 have HR0_0 := Aside0.mk hr0_0
 have HC0_0 := Aside0.mk hc0_0
 clear hr0_0 hc0_0
 have HR2 := Aside0.mk hr2
 have HC2 := Aside0.mk hc2
 clear hr2 hc2
 have HB := Z (Below.refl w.heap.size w)
 have H : ((spec_l05Has.f l0_0 a1).bind fun t472 => (if t472 = true then (spec_PutBlock.j0 k a1 l2 (decide ((l2.length : Int) > 64)) l0_0) else (spec_PutBlock.j0 k a1 l2 true l0_0))) = some (r1, r2) := h
 clear h
 have HC4 := Aside0.mk H
 clear H
 go_enter Try.func40, Try.ntmps40
 go_upto_region 1 with (first | ((with_reducible refine gate_dst (N := 3) rfl ?_); (try (refine gate_guard (by rfl) ?_; dsimp only)); refine box_event (by rfl) (N := 3) (by rfl) (cs := #[.slice A0_0 l0_0.length c0_0]) (t := 34) Z4 ?_; intro gb470 hg w5 hbox hb; have BK470 := Z (hbox); have GW470 := Z ((Z54 : w.heap.size ≤ gb470)); have GE470 := Z ((Z54 : w.heap.size ≤ gb470)); replace HB := Z (below_step Z33 hb); clear hb hbox hg) | ((with_reducible refine gate_dst (N := 6) rfl ?_); (try (refine gate_guard (by rfl) ?_; dsimp only)); refine box_event (by rfl) (N := 6) (by rfl) (cs := #[.slice none 0 0]) (t := 34) Z4 ?_; intro gb471 hg w6 hbox hb; have BK471 := Z (hbox); have GW471 := Z ((Z54 : w.heap.size ≤ gb471)); have GE471 := Z ((Z54 : w.heap.size ≤ gb471)); replace HB := Z (below_step Z33 hb); have NB470_471 := Z ((by rw [hg]; exact Nat.ne_of_lt (blk_lt (g := gb470) (o := .cells #[.slice A0_0 l0_0.length c0_0] 34 (0, 0)) (Z11 BK470)) : gb470 ≠ gb471)); have NB471_470 := Z ((by rw [hg]; exact Nat.ne_of_gt (blk_lt (g := gb470) (o := .cells #[.slice A0_0 l0_0.length c0_0] 34 (0, 0)) (Z11 BK470)) : gb471 ≠ gb470)); replace BK470 := Z (blk_below (g := gb470) (o := .cells #[.slice A0_0 l0_0.length c0_0] 34 (0, 0)) (Z11 BK470) hb); clear hb hbox hg))
 (try simp only [Act.put, List.setIfInBounds_toArray, List.set_cons_zero, List.set_cons_succ])
 go_cut [18] (fun v18 wc => ∃ (kq : Nat) (x18_3 : Bool), v18 = .bool x18_3 ∧ Aside0 (spec_PutBlock.j0 kq a1 l2 x18_3 l0_0 = some (r1, r2)) ∧ Aside0 (kq ≤ k) ∧ Aside0 (wc.heap[gb470]? = some (.cells #[(.slice A0_0 l0_0.length c0_0)] 34 (0, 0))) ∧ Aside0 (wc.heap[gb471]? = some (.cells #[(.slice none 0 0)] 34 (0, 0))) ∧ Aside0 (Below w.heap.size w wc))
 case first =>
  have H := HC4.out
  clear HC4
  replace H := Option.bind_eq_some_iff.mp H
  obtain ⟨t472, A70, H⟩ := H
  replace H : (if t472 = true then (spec_PutBlock.j0 k a1 l2 (decide ((l2.length : Int) > 64)) l0_0) else (spec_PutBlock.j0 k a1 l2 true l0_0)) = some (r1, r2) := H
  have A7 := Aside0.mk A70
  clear A70
  by_cases c8 : t472 = true
  ·subst c8
   have H1 : (spec_PutBlock.j0 k a1 l2 (decide ((l2.length : Int) > 64)) l0_0) = some (r1, r2) := Z10
   clear H
   have H := H1
   clear H1
   have H' := Aside0.mk H
   clear H
   have hnb9 := NB470_471.out
   have hnc9 := NB471_470.out
   have hcz10_0 : w6.cell? ⟨gb470, 0, none⟩ = some (.slice A0_0 l0_0.length c0_0) := (blk_cell BK470.out 0).trans rfl
   have hfz10_0 := blk_frozen BK470.out 0
   go_wp2_with (first | ((with_reducible refine gate_callee (f := 76) rfl ?_); refine goesL_ (some 12) rfl rfl Try.func76 Z9 rfl #[.agg #[.slice A0_0 l0_0.length c0_0], .int .i64 a1] rfl Z12 ?_; (with_reducible refine (spec_l05Has.calls _ _ l0_0 a1 true _ ?side1 ?side2 A7.out).mono ?_); (case side1 => exact (Z6 HR0_0)); (case side2 => exact HC0_0.out); rintro e w11 ⟨rfl, hb⟩; refine ⟨_, rfl, ?_⟩; replace BK470 := Z (blk_below (g := gb470) (o := .cells #[.slice A0_0 l0_0.length c0_0] 34 (0, 0)) (Z11 BK470) hb); replace BK471 := Z (blk_below (g := gb471) (o := .cells #[.slice none 0 0] 34 (0, 0)) (Z11 BK471) hb); replace HB := Z (below_step Z33 hb); (try clear hb); (try clear hb2); (try clear hk); (try clear hi)))
   go_meet
   case rel => exact ⟨_, (decide ((l2.length : Int) > 64)), Z0, H', ⟨Z16⟩, ⟨(Z11 BK470)⟩, ⟨(Z11 BK471)⟩, ⟨Z33⟩⟩
  ·replace c8 := Bool.eq_false_iff.mpr c8
   subst c8
   have H1 : (spec_PutBlock.j0 k a1 l2 true l0_0) = some (r1, r2) := by rw [if_neg (show ¬ (false = true) by decide)] at H; exact H
   clear H
   have H := H1
   clear H1
   have H' := Aside0.mk H
   clear H
   have hnb12 := NB470_471.out
   have hnc12 := NB471_470.out
   have hcz13_0 : w6.cell? ⟨gb470, 0, none⟩ = some (.slice A0_0 l0_0.length c0_0) := (blk_cell BK470.out 0).trans rfl
   have hfz13_0 := blk_frozen BK470.out 0
   go_wp2_with (first | ((with_reducible refine gate_callee (f := 76) rfl ?_); refine goesL_ (some 12) rfl rfl Try.func76 Z9 rfl #[.agg #[.slice A0_0 l0_0.length c0_0], .int .i64 a1] rfl Z12 ?_; (with_reducible refine (spec_l05Has.calls _ _ l0_0 a1 false _ ?side1 ?side2 A7.out).mono ?_); (case side1 => exact (Z6 HR0_0)); (case side2 => exact HC0_0.out); rintro e w14 ⟨rfl, hb⟩; refine ⟨_, rfl, ?_⟩; replace BK470 := Z (blk_below (g := gb470) (o := .cells #[.slice A0_0 l0_0.length c0_0] 34 (0, 0)) (Z11 BK470) hb); replace BK471 := Z (blk_below (g := gb471) (o := .cells #[.slice none 0 0] 34 (0, 0)) (Z11 BK471) hb); replace HB := Z (below_step Z33 hb); (try clear hb); (try clear hb2); (try clear hk); (try clear hi)))
   go_meet
   case rel => exact ⟨_, (true), Z0, H', ⟨Z16⟩, ⟨(Z11 BK470)⟩, ⟨(Z11 BK471)⟩, ⟨Z33⟩⟩
 case rest =>
  clear HC4
  try clear c1
  try clear c2
  try clear p2
  try clear c4
  try clear c7
  try clear c8
  try clear c9
  try clear c12
  try clear hcz10_0
  try clear hcz13_0
  try clear hfz10_0
  try clear hfz13_0
  obtain ⟨kq, x18_3, rfl, HA, HJ3, BK470, BK471, HB⟩ := hcut
  cases kq with
  | zero => exact absurd HA.out (by simp [spec_PutBlock.j0])
  | succ kj3 =>
   have H := HA.out
   clear HA
   simp only [spec_PutBlock.j0] at H
   by_cases c15 : x18_3 = true
   ·subst c15
    have H1 : (some (([] : List Int), false)) = some (r1, r2) := Z10
    clear H
    have H := H1
    clear H1
    simp only [Option.some.injEq, Prod.mk.injEq] at H
    obtain ⟨rfl, rfl⟩ := H
    have hnb16 := NB471_470.out
    have hnc16 := NB470_471.out
    have hcz17_0 : wc.cell? ⟨gb471, 0, none⟩ = some (.slice none 0 0) := (blk_cell BK471.out 0).trans rfl
    have hfz17_0 := blk_frozen BK471.out 0
    go_wp2
    refine bodyPost_ret (results_ct rfl _ _ gb471 34 #[.slice none 0 0] (0, 0) _ rfl (Z14 BK471) Try.underlying34 rfl Z9) rfl ?_
    exact ⟨_, Z8, Z15, Z33⟩
   ·replace c15 := Bool.eq_false_iff.mpr c15
    subst c15
    have H1 : ((some (([] : List Int) : List Int)).bind fun y473 => (if y473.length + l0_0.length < 35184372088832 then (spec_PutBlock.l0 kj3 a1 l2 (y473 ++ l0_0) 0) else (none))) = some (r1, r2) := by rw [if_neg (show ¬ (false = true) by decide)] at H; exact H
    clear H
    have H := H1
    clear H1
    obtain ⟨y473, hy473⟩ : ∃ y_ : List Int, y_ = (([] : List Int)) := ⟨_, rfl⟩
    replace H : (if y473.length + l0_0.length < 35184372088832 then (spec_PutBlock.l0 kj3 a1 l2 (y473 ++ l0_0) 0) else (none)) = some (r1, r2) := by first | (rw [hy473]; with_reducible exact H) | (have H2_ := (Option.bind_some _ _).symm.trans H; rw [hy473]; with_reducible exact H2_) | (have H2_ := (Option.bind_some _ _).symm.trans H; with_reducible exact H2_) | with_reducible exact H | (rw [hy473]; exact H) | exact H
    have Ny473 := Aside0.mk hy473
    clear hy473
    by_cases c18 : y473.length + l0_0.length < 35184372088832
    ·rw [if_pos c18] at H
     have LMc18 := Aside0.mk c18
     clear c18
     obtain ⟨y476, hy476⟩ : ∃ y_ : List Int, y_ = (y473 ++ l0_0) := ⟨_, rfl⟩
     replace H : (spec_PutBlock.l0 kj3 a1 l2 y476 0) = some (r1, r2) := by first | (rw [hy476]; with_reducible exact H) | (have H2_ := (Option.bind_some _ _).symm.trans H; rw [hy476]; with_reducible exact H2_) | (have H2_ := (Option.bind_some _ _).symm.trans H; with_reducible exact H2_) | with_reducible exact H | (rw [hy476]; exact H) | exact H
     have Ny476 := Aside0.mk hy476
     clear hy476
     have H' := Aside0.mk H
     clear H
     go_wp2_with (first | ((with_reducible refine gate_dst (N := 20) rfl ?_); (try (refine gate_guard (by rfl) ?_; dsimp only)); refine Kd.R_lit (Kd.int .u32) _ 47 (by rfl) (N := 20) (by rfl) (xs := ([] : List Int)) (inner := []) (ok := fun _ => True) (okp := fun _ => True) Z4 (Reps.none _ _) (fun _ hk => hk) trivial (Below.refl _ _) (Nat.le_refl _) (by simp) ?_; intro v474 w19 ho20 hb hg_ hnew_; clear hg_ hnew_; (first | rw [← Ny473.out] at ho20 | (simp only [Int.reduceToNat] at ho20; rw [← Ny473.out] at ho20)); have HO475 := Z (Kd.R_lower ho20 (below_size Z33)); replace BK470 := Z (blk_below (g := gb470) (o := .cells #[.slice A0_0 l0_0.length c0_0] 34 (0, 0)) (Z11 BK470) hb); replace BK471 := Z (blk_below (g := gb471) (o := .cells #[.slice none 0 0] 34 (0, 0)) (Z11 BK471) hb); replace HB := Z (below_step Z33 hb); clear hb ho20; have hnb21 := NB470_471.out; have hnc21 := NB471_470.out; have hcz22_0 : w19.cell? ⟨gb470, 0, none⟩ = some (.slice A0_0 l0_0.length c0_0) := (blk_cell BK470.out 0).trans rfl; have hfz22_0 := blk_frozen BK470.out 0) | ((with_reducible refine gate_builtin (b := .append) (xs := #[.tmp 20, .tmp 22]) rfl ?_); (try (refine gate_guard (by rfl) ?_; dsimp only)); at_builtin; refine Kd.R_append_rows (Kd.int .u32) (w0 := w) w.heap.size rfl (.tmp 20) (.tmp 22) 24 47 (.int .u32 0) 4 rfl Try.underlying24 info47 rfl (by decide) (by omega) v474 y473 l0_0 _ _ _ (fun _ => True) (fun _ => False) rfl rfl ?aO ?aR (fun _ _ h => h) (fun _ h => h.elim) ?aF ?aB ?aS ?aL ?_; (case aR => exact (Z6 HR0_0)); (case aB => exact Z33); (case aF => exact (fun _ _ => trivial)); (case aO => exact (Z7 HO475)); (case aS => exact (below_size Z33)); (case aL => have := LMc18.out; omega); intro v477 w23 ho hb hg hat; rw [← Ny476.out] at ho; replace BK470 := Z (blk_grown (g := gb470) (o := .cells #[.slice A0_0 l0_0.length c0_0] 34 (0, 0)) (Z11 BK470) hg (Kd.R_ne HO475.out BK470.out (by decide))); replace BK471 := Z (blk_grown (g := gb471) (o := .cells #[.slice none 0 0] 34 (0, 0)) (Z11 BK471) hg (Kd.R_ne HO475.out BK471.out (by decide))); replace HB := Z (hb); have HO478 := Z (ho); clear HO475; clear ho hb hg hat))
     go_loopg [9] kj3 (fun kq v9 w' => ∃ (x8_2 : List Int) (x9_2 : Int), v9 = .int .i64 x9_2 ∧ Aside0 (spec_PutBlock.l0 kq a1 l2 x8_2 x9_2 = some (r1, r2)) ∧ Aside0 (kq ≤ kj3) ∧ Aside0 (Kd.R (Kd.int .u32) 47 w' w.heap.size (fun _ => True) v477 x8_2) ∧ Aside0 (w'.heap[gb470]? = some (.cells #[(.slice A0_0 l0_0.length c0_0)] 34 (0, 0))) ∧ Aside0 (w'.heap[gb471]? = some (.cells #[(.slice none 0 0)] 34 (0, 0))) ∧ Aside0 (Below w.heap.size w w'))
     case atStart => exact ⟨(y476), (0), Z0, H', ⟨Nat.le_refl _⟩, ⟨(Z7 HO478)⟩, ⟨(Z11 BK470)⟩, ⟨(Z11 BK471)⟩, ⟨Z33⟩⟩
     case round =>
      clear H'
      try clear c1
      try clear c2
      try clear p2
      try clear c4
      try clear c7
      try clear c8
      try clear c9
      try clear c12
      try clear c15
      try clear c16
      try clear c18
      try clear c21
      try clear hcz10_0
      try clear hcz13_0
      try clear hcz17_0
      try clear hcz22_0
      try clear hfz10_0
      try clear hfz13_0
      try clear hfz17_0
      try clear hfz22_0
      try clear p2
      obtain ⟨x8_2, x9_2, rfl, HA, HK2, HO_8, BK470, BK471, HB⟩ := hrel
      cases gk with
      | zero => exact absurd HA.out (by simp [spec_PutBlock.l0])
      | succ k2 =>
       have H := HA.out
       clear HA
       simp only [spec_PutBlock.l0] at H
       by_cases c24 : x9_2 < 64
       ·rw [if_pos c24] at H
        have c24b0 : decide (x9_2 < 64) = true := decide_eq_true c24
        clear c24
        obtain ⟨ji25, hji25⟩ : ∃ j_ : Int, (wrap64 ((wrap64 (a1 * 64)) + x9_2)) = j_ := ⟨_, rfl⟩
        replace H : (if 0 ≤ (ji25) then (if (ji25) < (x8_2.length : Int) then ((some (x8_2.set ((ji25) : Int).toNat 0 : List Int)).bind fun y479 => (if x9_2 < (l2.length : Int) then (if 0 ≤ x9_2 then (spec_PutBlock.l0 k2 a1 l2 (y479.set ((ji25) : Int).toNat (rd l2 x9_2)) (wrap64 (x9_2 + 1))) else (none)) else (spec_PutBlock.l0 k2 a1 l2 y479 (wrap64 (x9_2 + 1))))) else (none)) else (none)) = some (r1, r2) := by first | (rw [hji25] at H; exact H) | (simp only [hji25] at H ⊢; exact H)
        have hji25w : (IntKind.i64.wrap ((wrap64 (a1 * 64)) + x9_2)) = ji25 := (i64_w _).trans hji25
        by_cases c26 : 0 ≤ (ji25)
        ·rw [if_pos c26] at H
         have c26b0 : decide (0 ≤ (ji25)) = true := decide_eq_true c26
         clear c26
         by_cases c27 : (ji25) < (x8_2.length : Int)
         ·rw [if_pos c27] at H
          have c27b0 : decide ((ji25) < (x8_2.length : Int)) = true := decide_eq_true c27
          clear c27
          obtain ⟨y479, hy479⟩ : ∃ y_ : List Int, y_ = (x8_2.set ((ji25) : Int).toNat 0) := ⟨_, rfl⟩
          replace H : (if x9_2 < (l2.length : Int) then (if 0 ≤ x9_2 then (spec_PutBlock.l0 k2 a1 l2 (y479.set ((ji25) : Int).toNat (rd l2 x9_2)) (wrap64 (x9_2 + 1))) else (none)) else (spec_PutBlock.l0 k2 a1 l2 y479 (wrap64 (x9_2 + 1)))) = some (r1, r2) := by first | (rw [hy479]; with_reducible exact H) | (have H2_ := (Option.bind_some _ _).symm.trans H; rw [hy479]; with_reducible exact H2_) | (have H2_ := (Option.bind_some _ _).symm.trans H; with_reducible exact H2_) | with_reducible exact H | (rw [hy479]; exact H) | exact H
          have Ny479 := Aside0.mk hy479
          clear hy479
          by_cases c29 : x9_2 < (l2.length : Int)
          ·rw [if_pos c29] at H
           have c29b0 : decide (x9_2 < (l2.length : Int)) = true := decide_eq_true c29
           clear c29
           by_cases c30 : 0 ≤ x9_2
           ·rw [if_pos c30] at H
            have c30b0 : decide (0 ≤ x9_2) = true := decide_eq_true c30
            clear c30
            obtain ⟨y481, hy481⟩ : ∃ y_ : List Int, y_ = (y479.set ((ji25) : Int).toNat (rd l2 x9_2)) := ⟨_, rfl⟩
            replace H : (spec_PutBlock.l0 k2 a1 l2 y481 (wrap64 (x9_2 + 1))) = some (r1, r2) := by first | (rw [hy481]; with_reducible exact H) | (have H2_ := (Option.bind_some _ _).symm.trans H; rw [hy481]; with_reducible exact H2_) | (have H2_ := (Option.bind_some _ _).symm.trans H; with_reducible exact H2_) | with_reducible exact H | (rw [hy481]; exact H) | exact H
            have Ny481 := Aside0.mk hy481
            clear hy481
            have H' := Aside0.mk H
            clear H
            have p28 : 0 ≤ ((ji25) : Int) := of_decide_eq_true Z2
            have q28 : ((ji25) : Int) < ((x8_2.length : Int) : Int) := of_decide_eq_true Z2
            obtain ⟨go28, co28, eo28, gb28, gl28, cl28, HG28⟩ := Kd.R_form HO_8.out (by omega)
            (first | cases eo28 | (injection eo28 with ea_ en_ ec_; (first | subst ea_ | (injection ea_ with ea_; subst ea_)); subst ec_; clear en_))
            have GB28 := Aside0.mk gb28
            have GG28 := Aside0.mk HG28
            clear gb28 gl28 HG28
            obtain ⟨hx28_0, hf28_0⟩ := Kd.R_celln 0 HO_8.out ((ji25) : Int) p28 q28
            replace p28 := eq_true p28
            replace q28 := eq_true q28
            have HP32 := Kd.R_putg HO_8.out ((ji25) : Int) 0
            go_wp2_with (first | ((with_reducible refine gate_store (t := 47) (p := 33) rfl ?_); refine store_event (t := 47) (p := 33) (v := ?vo_w33) (w1 := (wr.setCell ⟨go28, ((ji25) : Int).toNat, none⟩ (.int .u32 0))) (by rfl) (by rfl) (by rfl) Z4 ?_; intro w33 hw; have hg : wr.grownBy w33 (some go28) := (by rw [hw]; exact HP32.2); have hp_ : Kd.R (Kd.int .u32) 47 w33 w.heap.size (fun _ => True) (.slice (some ⟨go28, 0, none⟩) x8_2.length co28) y479 := (by rw [hw, Ny479.out]; exact HP32.1); clear HP32; replace BK470 := Z (blk_grown (g := gb470) (o := .cells #[.slice A0_0 l0_0.length c0_0] 34 (0, 0)) (Z11 BK470) hg (Kd.R_ne HO_8.out BK470.out (by decide))); replace BK471 := Z (blk_grown (g := gb471) (o := .cells #[.slice none 0 0] 34 (0, 0)) (Z11 BK471) hg (Kd.R_ne HO_8.out BK471.out (by decide))); replace HO_8 := Z (hp_); replace HB := Z ((by rw [hw]; exact below_set (HB.out) GB28.out : Below w.heap.size w w33)); clear hg hw hp_; have p480 : 0 ≤ (x9_2 : Int) := of_decide_eq_true Z2; have q480 : x9_2 < (l2.length : Int) := of_decide_eq_true Z2; obtain ⟨ad480, e480, hx480_0⟩ := Kd.at_int HR2.out x9_2 p480 q480; cases e480; replace hx480_0 := (HB.out.cell (World.block_lt_of_cell? w _ hx480_0)).trans hx480_0; replace p480 := eq_true p480; replace q480 := eq_true q480; have p31 : 0 ≤ ((ji25) : Int) := of_decide_eq_true Z2; have q31 : ((ji25) : Int) < ((x8_2.length : Int) : Int) := of_decide_eq_true Z2; obtain ⟨hx31_0, hf31_0⟩ := Kd.R_celln 0 HO_8.out ((ji25) : Int) p31 q31; replace p31 := eq_true p31; replace q31 := eq_true q31; obtain ⟨hy34_, hz34_⟩ := Kd.R_celln 0 HO_8.out ((ji25) : Int) (of_decide_eq_true Z2) (of_decide_eq_true Z2); have HP34 := Kd.R_putg HO_8.out ((ji25) : Int) (rd l2 x9_2)) | ((with_reducible refine gate_store (t := 47) (p := 47) rfl ?_); refine store_event (t := 47) (p := 47) (v := ?vo_w35) (w1 := (w33.setCell ⟨go28, ((ji25) : Int).toNat, none⟩ (.int .u32 (rd l2 x9_2)))) (by rfl) (by rfl) (by rfl) Z4 ?_; intro w35 hw; have hg : w33.grownBy w35 (some go28) := (by rw [hw]; exact HP34.2); have hp_ : Kd.R (Kd.int .u32) 47 w35 w.heap.size (fun _ => True) (.slice (some ⟨go28, 0, none⟩) x8_2.length co28) y481 := (by rw [hw, Ny481.out]; exact HP34.1); clear HP34; replace BK470 := Z (blk_grown (g := gb470) (o := .cells #[.slice A0_0 l0_0.length c0_0] 34 (0, 0)) (Z11 BK470) hg (Kd.R_ne HO_8.out BK470.out (by decide))); replace BK471 := Z (blk_grown (g := gb471) (o := .cells #[.slice none 0 0] 34 (0, 0)) (Z11 BK471) hg (Kd.R_ne HO_8.out BK471.out (by decide))); replace HO_8 := Z (hp_); replace HB := Z ((by rw [hw]; exact below_set (HB.out) GB28.out : Below w.heap.size w w35)); clear hg hw hp_))
            go_roundg k2
            case measure => have := HJ3.out; have := HK2.out; omega
            case rel => exact ⟨(y481), (wrap64 (x9_2 + 1)), Z0, H', ⟨by have := HJ3.out; have := HK2.out; omega⟩, ⟨(Z7 HO_8)⟩, ⟨(Z11 BK470)⟩, ⟨(Z11 BK471)⟩, ⟨Z33⟩⟩
           ·rw [if_neg c30] at H
            exact absurd H (by simp)
          ·rw [if_neg c29] at H
           have c29b0 : decide (x9_2 < (l2.length : Int)) = false := decide_eq_false c29
           clear c29
           have H' := Aside0.mk H
           clear H
           have p28 : 0 ≤ ((ji25) : Int) := of_decide_eq_true Z2
           have q28 : ((ji25) : Int) < ((x8_2.length : Int) : Int) := of_decide_eq_true Z2
           obtain ⟨go28, co28, eo28, gb28, gl28, cl28, HG28⟩ := Kd.R_form HO_8.out (by omega)
           (first | cases eo28 | (injection eo28 with ea_ en_ ec_; (first | subst ea_ | (injection ea_ with ea_; subst ea_)); subst ec_; clear en_))
           have GB28 := Aside0.mk gb28
           have GG28 := Aside0.mk HG28
           clear gb28 gl28 HG28
           obtain ⟨hx28_0, hf28_0⟩ := Kd.R_celln 0 HO_8.out ((ji25) : Int) p28 q28
           replace p28 := eq_true p28
           replace q28 := eq_true q28
           have HP36 := Kd.R_putg HO_8.out ((ji25) : Int) 0
           go_wp2_with (first | ((with_reducible refine gate_store (t := 47) (p := 33) rfl ?_); refine store_event (t := 47) (p := 33) (v := ?vo_w37) (w1 := (wr.setCell ⟨go28, ((ji25) : Int).toNat, none⟩ (.int .u32 0))) (by rfl) (by rfl) (by rfl) Z4 ?_; intro w37 hw; have hg : wr.grownBy w37 (some go28) := (by rw [hw]; exact HP36.2); have hp_ : Kd.R (Kd.int .u32) 47 w37 w.heap.size (fun _ => True) (.slice (some ⟨go28, 0, none⟩) x8_2.length co28) y479 := (by rw [hw, Ny479.out]; exact HP36.1); clear HP36; replace BK470 := Z (blk_grown (g := gb470) (o := .cells #[.slice A0_0 l0_0.length c0_0] 34 (0, 0)) (Z11 BK470) hg (Kd.R_ne HO_8.out BK470.out (by decide))); replace BK471 := Z (blk_grown (g := gb471) (o := .cells #[.slice none 0 0] 34 (0, 0)) (Z11 BK471) hg (Kd.R_ne HO_8.out BK471.out (by decide))); replace HO_8 := Z (hp_); replace HB := Z ((by rw [hw]; exact below_set (HB.out) GB28.out : Below w.heap.size w w37)); clear hg hw hp_))
           go_roundg k2
           case measure => have := HJ3.out; have := HK2.out; omega
           case rel => exact ⟨(y479), (wrap64 (x9_2 + 1)), Z0, H', ⟨by have := HJ3.out; have := HK2.out; omega⟩, ⟨(Z7 HO_8)⟩, ⟨(Z11 BK470)⟩, ⟨(Z11 BK471)⟩, ⟨Z33⟩⟩
         ·rw [if_neg c27] at H
          exact absurd H (by simp)
        ·rw [if_neg c26] at H
         exact absurd H (by simp)
       ·rw [if_neg c24] at H
        have c24b0 : decide (x9_2 < 64) = false := decide_eq_false c24
        clear c24
        simp only [Option.some.injEq, Prod.mk.injEq] at H
        obtain ⟨rfl, rfl⟩ := H
        obtain ⟨Ao38, co38, eo38⟩ := Kd.R_slice HO_8.out
        subst eo38
        have hnb39 := NB471_470.out
        have hnc39 := NB470_471.out
        have hcz40_0 : wr.cell? ⟨gb471, 0, none⟩ = some (.slice none 0 0) := (blk_cell BK471.out 0).trans rfl
        have hfz40_0 := blk_frozen BK471.out 0
        go_wp2
        refine bodyPost_ret (results_ct rfl _ _ gb471 34 #[.slice Ao38 x8_2.length co38] (0, 0) _ rfl (Z14 BK471) Try.underlying34 rfl Z9) rfl ?_
        exact ⟨_, Z8, by (with_reducible repeat (first | apply Kd.R_alloc | apply Kd.R_drewN | apply Kd.R_drew)); exact Kd.R_mono (Kd.R_far (p := ⟨gb471, 0, none⟩) (Kd.R_types HO_8.out BK471.out (by decide)) (fun _ hk => hk.2) (.slice Ao38 x8_2.length co38)) (fun _ hk => trivial), Z33⟩
    ·rw [if_neg c18] at H
     exact absurd H (by simp)

/-! ### laws_FnBlocks: function 7 -/
def laws_FnBlocks.l0 : Nat → Int → List Int → Int → List Int → List Int → Option (Bool)
 | 0, _, _, _, _, _ => none
 | k + 1, x4, x5, x10, x491000, x496000 => if x10 < (wrap64 ((x491000.length : Int) / 64)) then ((impl_BlockOf.f x491000 x10).bind fun bt501 => ((impl_BlockOf.f x496000 x10).bind fun bt505 => (if bt501.2 = true then (if bt505.2 = true then (if x10 = x4 then ((laws_padded.f k x5).bind fun t509 => ((laws_sameCells.f k bt505.1 t509).bind fun t512 => (if t512 = true then (laws_FnBlocks.l0 k x4 x5 (wrap64 (x10 + 1)) x491000 x496000) else (some false)))) else ((laws_sameCells.f k bt501.1 bt505.1).bind fun t513 => (if t513 = true then (laws_FnBlocks.l0 k x4 x5 (wrap64 (x10 + 1)) x491000 x496000) else (some false)))) else (some false)) else (some false)))) else ((impl_CopyBlock.f x496000 x4 0).bind fun bt514 => ((impl_BlockOf.f bt514.1 0).bind fun bt519 => (if bt514.2 = true then (if bt519.2 = true then ((laws_padded.f k x5).bind fun t523 => ((laws_sameCells.f k bt519.1 t523).bind fun t526 => (if t526 = true then (some ((x496000.length : Int) == (x491000.length : Int))) else (some false)))) else (some false)) else (some false))))
def laws_FnBlocks.f (k : Nat) (l0 : List Int) : Option (Bool) := (laws_big.f l0).bind fun t482 => (if t482 = true then (some true) else ((spec_DrawPutBlock.f k l0).bind fun bt483 => ((impl_PutBlock.f bt483.1 bt483.2.1 bt483.2.2).bind fun bt491 => ((spec_PutBlock.f k bt483.1 bt483.2.1 bt483.2.2).bind fun bt496 => (if (bt491.2 != bt496.2) = true then (some false) else (if bt491.2 = true then (laws_FnBlocks.l0 k bt483.2.1 bt483.2.2 0 bt483.1 bt491.1) else (some ((bt491.1.length : Int) == 0))))))))
theorem laws_FnBlocks.mono_l : ∀ k, (∀ y0 y1 y2 y3 y4, LeO (laws_FnBlocks.l0 k y0 y1 y2 y3 y4) (laws_FnBlocks.l0 (k + 1) y0 y1 y2 y3 y4))
 | 0 => fun _ _ _ _ _ r h => by simp [laws_FnBlocks.l0] at h
 | k + 1 => by
  have ih0 := laws_FnBlocks.mono_l k
  ·intro y0 y1 y2 y3 y4
   unfold laws_FnBlocks.l0
   repeat' first
   | (with_reducible exact ih0 _ _ _ _ _)
   | (with_reducible exact laws_padded.mono _ _)
   | (with_reducible exact laws_sameCells.mono _ _ _)
   | (with_reducible exact spec_DrawPutBlock.mono _ _)
   | (with_reducible exact spec_PutBlock.mono _ _ _ _)
   | (with_reducible exact LeO.refl _)
   | (with_reducible exact LeO.none _)
   | (with_reducible refine LeO.ite ?_ ?_)
   | (with_reducible refine LeO.bind ?_ (fun _ => ?_))
   | exact ih0 _ _ _ _ _
   | exact laws_padded.mono _ _
   | exact laws_sameCells.mono _ _ _
   | exact spec_DrawPutBlock.mono _ _
   | exact spec_PutBlock.mono _ _ _ _
   | exact LeO.none _
   | refine LeO.ite ?_ ?_
   | refine LeO.bind ?_ (fun _ => ?_)
theorem laws_FnBlocks.mono : ∀ a0 k, LeO (laws_FnBlocks.f k a0) (laws_FnBlocks.f (k + 1) a0) := by
 intro a0 k
 have ih0 := laws_FnBlocks.mono_l k
 unfold laws_FnBlocks.f
 repeat' first
   | (with_reducible exact ih0 _ _ _ _ _)
   | (with_reducible exact laws_padded.mono _ _)
   | (with_reducible exact laws_sameCells.mono _ _ _)
   | (with_reducible exact spec_DrawPutBlock.mono _ _)
   | (with_reducible exact spec_PutBlock.mono _ _ _ _)
   | (with_reducible exact LeO.refl _)
   | (with_reducible exact LeO.none _)
   | (with_reducible refine LeO.ite ?_ ?_)
   | (with_reducible refine LeO.bind ?_ (fun _ => ?_))
   | exact ih0 _ _ _ _ _
   | exact laws_padded.mono _ _
   | exact laws_sameCells.mono _ _ _
   | exact spec_DrawPutBlock.mono _ _
   | exact spec_PutBlock.mono _ _ _ _
   | exact LeO.none _
   | refine LeO.ite ?_ ?_
   | refine LeO.bind ?_ (fun _ => ?_)
set_option maxHeartbeats 8000000 in
set_option maxRecDepth 100000 in
theorem laws_FnBlocks.calls (k : Nat) (A0 : Option Addr) (c0 : Nat) (l0 : List Int) (r : Bool) (w : World) (hr0 : Kd.C (Kd.int .u8) w A0 l0.length l0) (hc0 : l0.length ≤ c0) (h : laws_FnBlocks.f k l0 = some r) :
  Calls Try.prog 7 #[.slice A0 l0.length c0] w fun e w' => e = .returned (.bool r) ∧ Below w.heap.size w w' := by
 have hu34 := Try.underlying34
 have HR0 := Aside0.mk hr0
 have HC0 := Aside0.mk hc0
 clear hr0 hc0
 have HB := Z (Below.refl w.heap.size w)
 have H : ((laws_big.f l0).bind fun t482 => (if t482 = true then (some true) else ((spec_DrawPutBlock.f k l0).bind fun bt483 => ((impl_PutBlock.f bt483.1 bt483.2.1 bt483.2.2).bind fun bt491 => ((spec_PutBlock.f k bt483.1 bt483.2.1 bt483.2.2).bind fun bt496 => (if (bt491.2 != bt496.2) = true then (some false) else (if bt491.2 = true then (laws_FnBlocks.l0 k bt483.2.1 bt483.2.2 0 bt483.1 bt491.1) else (some ((bt491.1.length : Int) == 0))))))))) = some r := h
 clear h
 replace H := Option.bind_eq_some_iff.mp H
 obtain ⟨t482, A20, H⟩ := H
 replace H : (if t482 = true then (some true) else ((spec_DrawPutBlock.f k l0).bind fun bt483 => ((impl_PutBlock.f bt483.1 bt483.2.1 bt483.2.2).bind fun bt491 => ((spec_PutBlock.f k bt483.1 bt483.2.1 bt483.2.2).bind fun bt496 => (if (bt491.2 != bt496.2) = true then (some false) else (if bt491.2 = true then (laws_FnBlocks.l0 k bt483.2.1 bt483.2.2 0 bt483.1 bt491.1) else (some ((bt491.1.length : Int) == 0)))))))) = some r := H
 have A2 := Aside0.mk A20
 clear A20
 by_cases c3 : t482 = true
 ·subst c3
  have H1 : (some true) = some r := Z10
  clear H
  have H := H1
  clear H1
  obtain rfl := Option.some.inj H
  go_enter Try.func7, Try.ntmps7
  go_wp2_with (first | ((with_reducible refine gate_callee (f := 13) rfl ?_); refine goesL_ (some 20) rfl rfl Try.func13 Z9 rfl #[.slice A0 l0.length c0] rfl Z12 ?_; (with_reducible refine (laws_big.calls _ _ l0 true _ ?side1 ?side2 A2.out).mono ?_); (case side1 => exact (Z26 HR0)); (case side2 => exact HC0.out); rintro e w' ⟨rfl, ⟨nd, rfl⟩⟩; refine ⟨_, rfl, ?_⟩))
  go_ret
  exact ⟨Z8, Z33⟩
 ·replace c3 := Bool.eq_false_iff.mpr c3
  subst c3
  have H1 : ((spec_DrawPutBlock.f k l0).bind fun bt483 => ((impl_PutBlock.f bt483.1 bt483.2.1 bt483.2.2).bind fun bt491 => ((spec_PutBlock.f k bt483.1 bt483.2.1 bt483.2.2).bind fun bt496 => (if (bt491.2 != bt496.2) = true then (some false) else (if bt491.2 = true then (laws_FnBlocks.l0 k bt483.2.1 bt483.2.2 0 bt483.1 bt491.1) else (some ((bt491.1.length : Int) == 0))))))) = some r := by rw [if_neg (show ¬ (false = true) by decide)] at H; exact H
  clear H
  have H := H1
  clear H1
  replace H := Option.bind_eq_some_iff.mp H
  obtain ⟨⟨t483, t486, t487⟩, A40, H⟩ := H
  replace H : ((impl_PutBlock.f t483 t486 t487).bind fun bt491 => ((spec_PutBlock.f k t483 t486 t487).bind fun bt496 => (if (bt491.2 != bt496.2) = true then (some false) else (if bt491.2 = true then (laws_FnBlocks.l0 k t486 t487 0 t483 bt491.1) else (some ((bt491.1.length : Int) == 0)))))) = some r := H
  have A4 := Aside0.mk A40
  clear A40
  replace H := Option.bind_eq_some_iff.mp H
  obtain ⟨⟨t491, t494⟩, A50, H⟩ := H
  replace H : ((spec_PutBlock.f k t483 t486 t487).bind fun bt496 => (if (t494 != bt496.2) = true then (some false) else (if t494 = true then (laws_FnBlocks.l0 k t486 t487 0 t483 t491) else (some ((t491.length : Int) == 0))))) = some r := H
  have A5 := Aside0.mk A50
  clear A50
  replace H := Option.bind_eq_some_iff.mp H
  obtain ⟨⟨t496, t499⟩, A60, H⟩ := H
  replace H : (if (t494 != t499) = true then (some false) else (if t494 = true then (laws_FnBlocks.l0 k t486 t487 0 t483 t491) else (some ((t491.length : Int) == 0)))) = some r := H
  have A6 := Aside0.mk A60
  clear A60
  by_cases c7 : (t494 != t499) = true
  ·rw [if_pos c7] at H
   have c7b0 : (t494 != t499) = true := c7
   (try (have c7b1 : decide (t494 = t499) = false := by simpa using c7))
   (try (have c7b2 : (t494 == t499) = false := by simpa using c7))
   (try (have c7b3 : ¬ (t494 = t499) := by simpa using c7))
   clear c7
   obtain rfl := Option.some.inj H
   go_enter Try.func7, Try.ntmps7
   go_wp2_with (first | ((with_reducible refine gate_callee (f := 13) rfl ?_); refine goesL_ (some 20) rfl rfl Try.func13 Z9 rfl #[.slice A0 l0.length c0] rfl Z12 ?_; (with_reducible refine (laws_big.calls _ _ l0 false _ ?side1 ?side2 A2.out).mono ?_); (case side1 => exact (Z26 HR0)); (case side2 => exact HC0.out); rintro e w' ⟨rfl, ⟨nd, rfl⟩⟩; refine ⟨_, rfl, ?_⟩) | ((with_reducible refine gate_callee (f := 38) rfl ?_); refine goesL_ (some 23) rfl rfl Try.func38 Z9 rfl #[.slice A0 l0.length c0] rfl Z12 ?_; (with_reducible refine (spec_DrawPutBlock.calls k _ _ l0 t483 t486 t487 _ ?side1 ?side2 A4.out).mono ?_); (case side1 => exact (Z26 HR0)); (case side2 => exact HC0.out); rintro e w8 ⟨v484, v488, rfl, ho0, ho1, hb⟩; refine ⟨_, rfl, ?_⟩; have HO485 := Z (Kd.R_lower ho0 (below_size Z33)); have HO489 := Z (Kd.R_lower ho1 (below_size Z33)); replace HB := Z (below_step Z33 hb); (try clear hb); (try clear hb2); (try clear hk); (try clear hi); (try clear ho0); (try clear ho1)) | ((with_reducible refine gate_dst (N := 3) rfl ?_); (try (refine gate_guard (by rfl) ?_; dsimp only)); refine box_event (by rfl) (N := 3) (by rfl) (cs := #[.slice none 0 0]) (t := 34) Z4 ?_; intro gb490 hg w9 hbox hb; replace HO485 := Z (Kd.R_below (Z7 HO485) hb); replace HO489 := Z (Kd.R_below (Z7 HO489) hb); have BK490 := Z (hbox); have GW490 := Z ((Z54 : w.heap.size ≤ gb490)); have GE490 := Z ((Z54 : w.heap.size ≤ gb490)); replace HB := Z (below_step Z33 hb); clear hb hbox hg; obtain ⟨Ao10, co10, eo10⟩ := Kd.R_slice HO485.out; subst eo10; have hcz11_0 : w9.cell? ⟨gb490, 0, none⟩ = some (.slice none 0 0) := (blk_cell BK490.out 0).trans rfl; have hfz11_0 := blk_frozen BK490.out 0; obtain ⟨Ao12, co12, eo12⟩ := Kd.R_slice HO489.out; subst eo12) | ((with_reducible refine gate_callee (f := 39) rfl ?_); refine goesL_ (some 31) rfl rfl Try.func39 Z9 rfl #[.agg #[.slice Ao10 t483.length co10], .int .i64 t486, .slice Ao12 t487.length co12] rfl Z12 ?_; (with_reducible refine (impl_PutBlock.calls _ _ t483 t486 _ _ t487 t491 t494 _ ?side1 ?side2 ?side3 ?side4 A5.out).mono ?_); (case side1 => exact (by refine (Kd.R_reads' (e := 47) (base := w.heap.size) (ok := fun k_ => some k_ ≠ (.slice Ao12 t487.length co12 : Value).ownBlock) (n := t483.length) (c := co10) ?_).2.2; exact (by (with_reducible repeat (first | apply Kd.R_alloc | apply Kd.R_drewN | apply Kd.R_drew)); exact (Kd.R_mono (Kd.R_far (p := ⟨gb490, 0, none⟩) (Kd.R_types HO485.out BK490.out (by decide)) (fun _ hk => hk.2) (.slice Ao10 t483.length co10)) (fun _ h_ => h_.1))))); (case side2 => exact (Kd.R_reads' HO485.out).2.1); (case side3 => exact (by refine (Kd.R_reads' (e := 47) (base := w.heap.size) (ok := fun k_ => some k_ ≠ (.slice Ao10 t483.length co10 : Value).ownBlock) (n := t487.length) (c := co12) ?_).2.2; exact (by (with_reducible repeat (first | apply Kd.R_alloc | apply Kd.R_drewN | apply Kd.R_drew)); exact (Kd.R_mono (Kd.R_far (p := ⟨gb490, 0, none⟩) (Kd.R_types HO489.out BK490.out (by decide)) (fun _ hk => hk.2) (.slice Ao10 t483.length co10)) (fun _ h_ => h_.1))))); (case side4 => exact (Kd.R_reads' HO489.out).2.1); rintro e w13 ⟨v492, rfl, ho0, hb⟩; refine ⟨_, rfl, ?_⟩; have HO493 := Z (Kd.R_lower (Kd.R_new' (Kd.R_new' ho0 (Kd.R_lt (by (with_reducible repeat (first | apply Kd.R_alloc | apply Kd.R_drewN | apply Kd.R_drew)); exact (Kd.R_mono (Kd.R_far (p := ⟨gb490, 0, none⟩) (Kd.R_types HO485.out BK490.out (by decide)) (fun _ hk => hk.2) (.slice Ao10 t483.length co10)) (fun _ h_ => h_.1))))) (Kd.R_lt (by (with_reducible repeat (first | apply Kd.R_alloc | apply Kd.R_drewN | apply Kd.R_drew)); exact (Kd.R_mono (Kd.R_far (p := ⟨gb490, 0, none⟩) (Kd.R_types HO489.out BK490.out (by decide)) (fun _ hk => hk.2) (.slice Ao10 t483.length co10)) (fun _ h_ => h_.1))))) (below_size Z33)); replace HO485 := Z (Kd.R_elder' (by (with_reducible repeat (first | apply Kd.R_alloc | apply Kd.R_drewN | apply Kd.R_drew)); exact (Kd.R_mono (Kd.R_far (p := ⟨gb490, 0, none⟩) (Kd.R_types HO485.out BK490.out (by decide)) (fun _ hk => hk.2) (.slice Ao10 t483.length co10)) (fun _ h_ => h_.1))) (Kd.R_base ho0) hb); replace HO489 := Z (Kd.R_elder' (by (with_reducible repeat (first | apply Kd.R_alloc | apply Kd.R_drewN | apply Kd.R_drew)); exact (Kd.R_mono (Kd.R_far (p := ⟨gb490, 0, none⟩) (Kd.R_types HO489.out BK490.out (by decide)) (fun _ hk => hk.2) (.slice Ao10 t483.length co10)) (fun _ h_ => h_.1))) (Kd.R_base ho0) hb); replace BK490 := Z (blk_below (g := gb490) (o := .cells #[.slice Ao10 t483.length co10] 34 (0, 0)) (Z14 BK490) hb); replace HB := Z (below_step Z33 hb); (try clear hb); (try clear hb2); (try clear hk); (try clear hi); (try clear ho0)) | ((with_reducible refine gate_dst (N := 6) rfl ?_); (try (refine gate_guard (by rfl) ?_; dsimp only)); refine box_event (by rfl) (N := 6) (by rfl) (cs := #[.slice none 0 0]) (t := 34) Z4 ?_; intro gb495 hg w14 hbox hb; replace HO485 := Z (Kd.R_below (Z7 HO485) hb); replace HO489 := Z (Kd.R_below (Z7 HO489) hb); replace HO493 := Z (Kd.R_below (Z7 HO493) hb); have BK495 := Z (hbox); have GW495 := Z ((Z54 : w.heap.size ≤ gb495)); have GE495 := Z ((Z54 : w.heap.size ≤ gb495)); replace HB := Z (below_step Z33 hb); have NB490_495 := Z ((Z44 : gb490 ≠ gb495)); have NB495_490 := Z ((Z45 : gb495 ≠ gb490)); replace BK490 := Z (blk_below (g := gb490) (o := .cells #[.slice Ao10 t483.length co10] 34 (0, 0)) (Z11 BK490) hb); clear hb hbox hg; obtain ⟨Ao15, co15, eo15⟩ := Kd.R_slice HO493.out; subst eo15; have hnb16 := NB495_490.out; have hnc16 := NB490_495.out; have hcz17_0 : w14.cell? ⟨gb495, 0, none⟩ = some (.slice none 0 0) := (blk_cell BK495.out 0).trans rfl; have hfz17_0 := blk_frozen BK495.out 0; have hcz18_0 : w14.cell? ⟨gb490, 0, none⟩ = some (.slice Ao10 t483.length co10) := (blk_cell BK490.out 0).trans rfl; have hfz18_0 := blk_frozen BK490.out 0) | ((with_reducible refine gate_callee (f := 40) rfl ?_); refine goesL_ (some 38) rfl rfl Try.func40 Z9 rfl #[.agg #[.slice Ao10 t483.length co10], .int .i64 t486, .slice Ao12 t487.length co12] rfl Z12 ?_; (with_reducible refine (spec_PutBlock.calls k _ _ t483 t486 _ _ t487 t496 t499 _ ?side1 ?side2 ?side3 ?side4 A6.out).mono ?_); (case side1 => exact (by refine (Kd.R_reads' (e := 47) (base := w.heap.size) (ok := fun k_ => (some k_ ≠ (.slice Ao12 t487.length co12 : Value).ownBlock ∧ some k_ ≠ (.slice Ao15 t491.length co15 : Value).ownBlock)) (n := t483.length) (c := co10) ?_).2.2; exact (by (with_reducible repeat (first | apply Kd.R_alloc | apply Kd.R_drewN | apply Kd.R_drew)); exact (Kd.R_mono (Kd.R_far (p := ⟨gb495, 0, none⟩) (Kd.R_types HO485.out BK495.out (by decide)) (fun _ hk => hk.2) (.slice Ao15 t491.length co15)) (fun _ h_ => h_.1))))); (case side2 => exact (Kd.R_reads' HO485.out).2.1); (case side3 => exact (by refine (Kd.R_reads' (e := 47) (base := w.heap.size) (ok := fun k_ => (some k_ ≠ (.slice Ao10 t483.length co10 : Value).ownBlock ∧ some k_ ≠ (.slice Ao15 t491.length co15 : Value).ownBlock)) (n := t487.length) (c := co12) ?_).2.2; exact (by (with_reducible repeat (first | apply Kd.R_alloc | apply Kd.R_drewN | apply Kd.R_drew)); exact (Kd.R_mono (Kd.R_far (p := ⟨gb495, 0, none⟩) (Kd.R_types HO489.out BK495.out (by decide)) (fun _ hk => hk.2) (.slice Ao15 t491.length co15)) (fun _ h_ => h_.1))))); (case side4 => exact (Kd.R_reads' HO489.out).2.1); rintro e w19 ⟨v497, rfl, ho0, hb⟩; refine ⟨_, rfl, ?_⟩; have HO498 := Z (Kd.R_lower (Kd.R_new' (Kd.R_new' (Kd.R_new' ho0 (Kd.R_lt (by (with_reducible repeat (first | apply Kd.R_alloc | apply Kd.R_drewN | apply Kd.R_drew)); exact (Kd.R_mono (Kd.R_far (p := ⟨gb495, 0, none⟩) (Kd.R_types HO485.out BK495.out (by decide)) (fun _ hk => hk.2) (.slice Ao15 t491.length co15)) (fun _ h_ => h_.1))))) (Kd.R_lt (by (with_reducible repeat (first | apply Kd.R_alloc | apply Kd.R_drewN | apply Kd.R_drew)); exact (Kd.R_mono (Kd.R_far (p := ⟨gb495, 0, none⟩) (Kd.R_types HO489.out BK495.out (by decide)) (fun _ hk => hk.2) (.slice Ao15 t491.length co15)) (fun _ h_ => h_.1))))) (Kd.R_lt (by (with_reducible repeat (first | apply Kd.R_alloc | apply Kd.R_drewN | apply Kd.R_drew)); exact (Kd.R_mono (Kd.R_far (p := ⟨gb495, 0, none⟩) (Kd.R_types HO493.out BK495.out (by decide)) (fun _ hk => hk.2) (.slice Ao15 t491.length co15)) (fun _ h_ => h_.1))))) (below_size Z33)); replace HO485 := Z (Kd.R_elder' (by (with_reducible repeat (first | apply Kd.R_alloc | apply Kd.R_drewN | apply Kd.R_drew)); exact (Kd.R_mono (Kd.R_far (p := ⟨gb495, 0, none⟩) (Kd.R_types HO485.out BK495.out (by decide)) (fun _ hk => hk.2) (.slice Ao15 t491.length co15)) (fun _ h_ => h_.1))) (Kd.R_base ho0) hb); replace HO489 := Z (Kd.R_elder' (by (with_reducible repeat (first | apply Kd.R_alloc | apply Kd.R_drewN | apply Kd.R_drew)); exact (Kd.R_mono (Kd.R_far (p := ⟨gb495, 0, none⟩) (Kd.R_types HO489.out BK495.out (by decide)) (fun _ hk => hk.2) (.slice Ao15 t491.length co15)) (fun _ h_ => h_.1))) (Kd.R_base ho0) hb); replace HO493 := Z (Kd.R_elder' (by (with_reducible repeat (first | apply Kd.R_alloc | apply Kd.R_drewN | apply Kd.R_drew)); exact (Kd.R_mono (Kd.R_far (p := ⟨gb495, 0, none⟩) (Kd.R_types HO493.out BK495.out (by decide)) (fun _ hk => hk.2) (.slice Ao15 t491.length co15)) (fun _ h_ => h_.1))) (Kd.R_base ho0) hb); replace BK490 := Z (blk_below (g := gb490) (o := .cells #[.slice Ao10 t483.length co10] 34 (0, 0)) (Z27 BK490) hb); replace BK495 := Z (blk_below (g := gb495) (o := .cells #[.slice Ao15 t491.length co15] 34 (0, 0)) (Z14 BK495) hb); replace HB := Z (below_step Z33 hb); (try clear hb); (try clear hb2); (try clear hk); (try clear hi); (try clear ho0)) | ((with_reducible refine gate_dst (N := 8) rfl ?_); (try (refine gate_guard (by rfl) ?_; dsimp only)); refine box_event (by rfl) (N := 8) (by rfl) (cs := #[.slice none 0 0]) (t := 34) Z4 ?_; intro gb500 hg w20 hbox hb; replace HO485 := Z (Kd.R_below (Z7 HO485) hb); replace HO489 := Z (Kd.R_below (Z7 HO489) hb); replace HO493 := Z (Kd.R_below (Z7 HO493) hb); replace HO498 := Z (Kd.R_below (Z7 HO498) hb); have BK500 := Z (hbox); have GW500 := Z ((Z54 : w.heap.size ≤ gb500)); have GE500 := Z ((Z54 : w.heap.size ≤ gb500)); replace HB := Z (below_step Z33 hb); have NB490_500 := Z ((Z44 : gb490 ≠ gb500)); have NB500_490 := Z ((Z45 : gb500 ≠ gb490)); replace BK490 := Z (blk_below (g := gb490) (o := .cells #[.slice Ao10 t483.length co10] 34 (0, 0)) (Z11 BK490) hb); have NB495_500 := Z ((by rw [hg]; exact Nat.ne_of_lt (blk_lt (g := gb495) (o := .cells #[.slice Ao15 t491.length co15] 34 (0, 0)) (Z11 BK495)) : gb495 ≠ gb500)); have NB500_495 := Z ((by rw [hg]; exact Nat.ne_of_gt (blk_lt (g := gb495) (o := .cells #[.slice Ao15 t491.length co15] 34 (0, 0)) (Z11 BK495)) : gb500 ≠ gb495)); replace BK495 := Z (blk_below (g := gb495) (o := .cells #[.slice Ao15 t491.length co15] 34 (0, 0)) (Z11 BK495) hb); clear hb hbox hg; obtain ⟨Ao21, co21, eo21⟩ := Kd.R_slice HO498.out; subst eo21; have hnb22 := NB500_490.out; have hnc22 := NB490_500.out; have hnb23 := NB500_495.out; have hnc23 := NB495_500.out; have hcz24_0 : w20.cell? ⟨gb500, 0, none⟩ = some (.slice none 0 0) := (blk_cell BK500.out 0).trans rfl; have hfz24_0 := blk_frozen BK500.out 0))
   go_ret
   exact ⟨Z8, Z33⟩
  ·rw [if_neg c7] at H
   have c7b0 : (t494 != t499) = false := by simpa using c7
   (try (have c7b1 : decide (t494 = t499) = true := by simpa using c7))
   (try (have c7b2 : (t494 == t499) = true := by simpa using c7))
   clear c7
   by_cases c25 : t494 = true
   ·subst c25
    have H1 : (laws_FnBlocks.l0 k t486 t487 0 t483 t491) = some r := Z10
    clear H
    have H := H1
    clear H1
    have H' := Aside0.mk H
    clear H
    go_enter Try.func7, Try.ntmps7
    go_wp2_with (first | ((with_reducible refine gate_callee (f := 13) rfl ?_); refine goesL_ (some 20) rfl rfl Try.func13 Z9 rfl #[.slice A0 l0.length c0] rfl Z12 ?_; (with_reducible refine (laws_big.calls _ _ l0 false _ ?side1 ?side2 A2.out).mono ?_); (case side1 => exact (Z26 HR0)); (case side2 => exact HC0.out); rintro e w' ⟨rfl, ⟨nd, rfl⟩⟩; refine ⟨_, rfl, ?_⟩) | ((with_reducible refine gate_callee (f := 38) rfl ?_); refine goesL_ (some 23) rfl rfl Try.func38 Z9 rfl #[.slice A0 l0.length c0] rfl Z12 ?_; (with_reducible refine (spec_DrawPutBlock.calls k _ _ l0 t483 t486 t487 _ ?side1 ?side2 A4.out).mono ?_); (case side1 => exact (Z26 HR0)); (case side2 => exact HC0.out); rintro e w26 ⟨v484, v488, rfl, ho0, ho1, hb⟩; refine ⟨_, rfl, ?_⟩; have HO485 := Z (Kd.R_lower ho0 (below_size Z33)); have HO489 := Z (Kd.R_lower ho1 (below_size Z33)); replace HB := Z (below_step Z33 hb); (try clear hb); (try clear hb2); (try clear hk); (try clear hi); (try clear ho0); (try clear ho1)) | ((with_reducible refine gate_dst (N := 3) rfl ?_); (try (refine gate_guard (by rfl) ?_; dsimp only)); refine box_event (by rfl) (N := 3) (by rfl) (cs := #[.slice none 0 0]) (t := 34) Z4 ?_; intro gb490 hg w27 hbox hb; replace HO485 := Z (Kd.R_below (Z7 HO485) hb); replace HO489 := Z (Kd.R_below (Z7 HO489) hb); have BK490 := Z (hbox); have GW490 := Z ((Z54 : w.heap.size ≤ gb490)); have GE490 := Z ((Z54 : w.heap.size ≤ gb490)); replace HB := Z (below_step Z33 hb); clear hb hbox hg; obtain ⟨Ao28, co28, eo28⟩ := Kd.R_slice HO485.out; subst eo28; have hcz29_0 : w27.cell? ⟨gb490, 0, none⟩ = some (.slice none 0 0) := (blk_cell BK490.out 0).trans rfl; have hfz29_0 := blk_frozen BK490.out 0; obtain ⟨Ao30, co30, eo30⟩ := Kd.R_slice HO489.out; subst eo30) | ((with_reducible refine gate_callee (f := 39) rfl ?_); refine goesL_ (some 31) rfl rfl Try.func39 Z9 rfl #[.agg #[.slice Ao28 t483.length co28], .int .i64 t486, .slice Ao30 t487.length co30] rfl Z12 ?_; (with_reducible refine (impl_PutBlock.calls _ _ t483 t486 _ _ t487 t491 true _ ?side1 ?side2 ?side3 ?side4 A5.out).mono ?_); (case side1 => exact (by refine (Kd.R_reads' (e := 47) (base := w.heap.size) (ok := fun k_ => some k_ ≠ (.slice Ao30 t487.length co30 : Value).ownBlock) (n := t483.length) (c := co28) ?_).2.2; exact (by (with_reducible repeat (first | apply Kd.R_alloc | apply Kd.R_drewN | apply Kd.R_drew)); exact (Kd.R_mono (Kd.R_far (p := ⟨gb490, 0, none⟩) (Kd.R_types HO485.out BK490.out (by decide)) (fun _ hk => hk.2) (.slice Ao28 t483.length co28)) (fun _ h_ => h_.1))))); (case side2 => exact (Kd.R_reads' HO485.out).2.1); (case side3 => exact (by refine (Kd.R_reads' (e := 47) (base := w.heap.size) (ok := fun k_ => some k_ ≠ (.slice Ao28 t483.length co28 : Value).ownBlock) (n := t487.length) (c := co30) ?_).2.2; exact (by (with_reducible repeat (first | apply Kd.R_alloc | apply Kd.R_drewN | apply Kd.R_drew)); exact (Kd.R_mono (Kd.R_far (p := ⟨gb490, 0, none⟩) (Kd.R_types HO489.out BK490.out (by decide)) (fun _ hk => hk.2) (.slice Ao28 t483.length co28)) (fun _ h_ => h_.1))))); (case side4 => exact (Kd.R_reads' HO489.out).2.1); rintro e w31 ⟨v492, rfl, ho0, hb⟩; refine ⟨_, rfl, ?_⟩; have HO493 := Z (Kd.R_lower (Kd.R_new' (Kd.R_new' ho0 (Kd.R_lt (by (with_reducible repeat (first | apply Kd.R_alloc | apply Kd.R_drewN | apply Kd.R_drew)); exact (Kd.R_mono (Kd.R_far (p := ⟨gb490, 0, none⟩) (Kd.R_types HO485.out BK490.out (by decide)) (fun _ hk => hk.2) (.slice Ao28 t483.length co28)) (fun _ h_ => h_.1))))) (Kd.R_lt (by (with_reducible repeat (first | apply Kd.R_alloc | apply Kd.R_drewN | apply Kd.R_drew)); exact (Kd.R_mono (Kd.R_far (p := ⟨gb490, 0, none⟩) (Kd.R_types HO489.out BK490.out (by decide)) (fun _ hk => hk.2) (.slice Ao28 t483.length co28)) (fun _ h_ => h_.1))))) (below_size Z33)); replace HO485 := Z (Kd.R_elder' (by (with_reducible repeat (first | apply Kd.R_alloc | apply Kd.R_drewN | apply Kd.R_drew)); exact (Kd.R_mono (Kd.R_far (p := ⟨gb490, 0, none⟩) (Kd.R_types HO485.out BK490.out (by decide)) (fun _ hk => hk.2) (.slice Ao28 t483.length co28)) (fun _ h_ => h_.1))) (Kd.R_base ho0) hb); replace HO489 := Z (Kd.R_elder' (by (with_reducible repeat (first | apply Kd.R_alloc | apply Kd.R_drewN | apply Kd.R_drew)); exact (Kd.R_mono (Kd.R_far (p := ⟨gb490, 0, none⟩) (Kd.R_types HO489.out BK490.out (by decide)) (fun _ hk => hk.2) (.slice Ao28 t483.length co28)) (fun _ h_ => h_.1))) (Kd.R_base ho0) hb); replace BK490 := Z (blk_below (g := gb490) (o := .cells #[.slice Ao28 t483.length co28] 34 (0, 0)) (Z14 BK490) hb); replace HB := Z (below_step Z33 hb); (try clear hb); (try clear hb2); (try clear hk); (try clear hi); (try clear ho0)) | ((with_reducible refine gate_dst (N := 6) rfl ?_); (try (refine gate_guard (by rfl) ?_; dsimp only)); refine box_event (by rfl) (N := 6) (by rfl) (cs := #[.slice none 0 0]) (t := 34) Z4 ?_; intro gb495 hg w32 hbox hb; replace HO485 := Z (Kd.R_below (Z7 HO485) hb); replace HO489 := Z (Kd.R_below (Z7 HO489) hb); replace HO493 := Z (Kd.R_below (Z7 HO493) hb); have BK495 := Z (hbox); have GW495 := Z ((Z54 : w.heap.size ≤ gb495)); have GE495 := Z ((Z54 : w.heap.size ≤ gb495)); replace HB := Z (below_step Z33 hb); have NB490_495 := Z ((Z46 : gb490 ≠ gb495)); have NB495_490 := Z ((Z47 : gb495 ≠ gb490)); replace BK490 := Z (blk_below (g := gb490) (o := .cells #[.slice Ao28 t483.length co28] 34 (0, 0)) (Z11 BK490) hb); clear hb hbox hg; obtain ⟨Ao33, co33, eo33⟩ := Kd.R_slice HO493.out; subst eo33; have hnb34 := NB495_490.out; have hnc34 := NB490_495.out; have hcz35_0 : w32.cell? ⟨gb495, 0, none⟩ = some (.slice none 0 0) := (blk_cell BK495.out 0).trans rfl; have hfz35_0 := blk_frozen BK495.out 0; have hcz36_0 : w32.cell? ⟨gb490, 0, none⟩ = some (.slice Ao28 t483.length co28) := (blk_cell BK490.out 0).trans rfl; have hfz36_0 := blk_frozen BK490.out 0) | ((with_reducible refine gate_callee (f := 40) rfl ?_); refine goesL_ (some 38) rfl rfl Try.func40 Z9 rfl #[.agg #[.slice Ao28 t483.length co28], .int .i64 t486, .slice Ao30 t487.length co30] rfl Z12 ?_; (with_reducible refine (spec_PutBlock.calls k _ _ t483 t486 _ _ t487 t496 t499 _ ?side1 ?side2 ?side3 ?side4 A6.out).mono ?_); (case side1 => exact (by refine (Kd.R_reads' (e := 47) (base := w.heap.size) (ok := fun k_ => (some k_ ≠ (.slice Ao30 t487.length co30 : Value).ownBlock ∧ some k_ ≠ (.slice Ao33 t491.length co33 : Value).ownBlock)) (n := t483.length) (c := co28) ?_).2.2; exact (by (with_reducible repeat (first | apply Kd.R_alloc | apply Kd.R_drewN | apply Kd.R_drew)); exact (Kd.R_mono (Kd.R_far (p := ⟨gb495, 0, none⟩) (Kd.R_types HO485.out BK495.out (by decide)) (fun _ hk => hk.2) (.slice Ao33 t491.length co33)) (fun _ h_ => h_.1))))); (case side2 => exact (Kd.R_reads' HO485.out).2.1); (case side3 => exact (by refine (Kd.R_reads' (e := 47) (base := w.heap.size) (ok := fun k_ => (some k_ ≠ (.slice Ao28 t483.length co28 : Value).ownBlock ∧ some k_ ≠ (.slice Ao33 t491.length co33 : Value).ownBlock)) (n := t487.length) (c := co30) ?_).2.2; exact (by (with_reducible repeat (first | apply Kd.R_alloc | apply Kd.R_drewN | apply Kd.R_drew)); exact (Kd.R_mono (Kd.R_far (p := ⟨gb495, 0, none⟩) (Kd.R_types HO489.out BK495.out (by decide)) (fun _ hk => hk.2) (.slice Ao33 t491.length co33)) (fun _ h_ => h_.1))))); (case side4 => exact (Kd.R_reads' HO489.out).2.1); rintro e w37 ⟨v497, rfl, ho0, hb⟩; refine ⟨_, rfl, ?_⟩; have HO498 := Z (Kd.R_lower (Kd.R_new' (Kd.R_new' (Kd.R_new' ho0 (Kd.R_lt (by (with_reducible repeat (first | apply Kd.R_alloc | apply Kd.R_drewN | apply Kd.R_drew)); exact (Kd.R_mono (Kd.R_far (p := ⟨gb495, 0, none⟩) (Kd.R_types HO485.out BK495.out (by decide)) (fun _ hk => hk.2) (.slice Ao33 t491.length co33)) (fun _ h_ => h_.1))))) (Kd.R_lt (by (with_reducible repeat (first | apply Kd.R_alloc | apply Kd.R_drewN | apply Kd.R_drew)); exact (Kd.R_mono (Kd.R_far (p := ⟨gb495, 0, none⟩) (Kd.R_types HO489.out BK495.out (by decide)) (fun _ hk => hk.2) (.slice Ao33 t491.length co33)) (fun _ h_ => h_.1))))) (Kd.R_lt (by (with_reducible repeat (first | apply Kd.R_alloc | apply Kd.R_drewN | apply Kd.R_drew)); exact (Kd.R_mono (Kd.R_far (p := ⟨gb495, 0, none⟩) (Kd.R_types HO493.out BK495.out (by decide)) (fun _ hk => hk.2) (.slice Ao33 t491.length co33)) (fun _ h_ => h_.1))))) (below_size Z33)); replace HO485 := Z (Kd.R_elder' (by (with_reducible repeat (first | apply Kd.R_alloc | apply Kd.R_drewN | apply Kd.R_drew)); exact (Kd.R_mono (Kd.R_far (p := ⟨gb495, 0, none⟩) (Kd.R_types HO485.out BK495.out (by decide)) (fun _ hk => hk.2) (.slice Ao33 t491.length co33)) (fun _ h_ => h_.1))) (Kd.R_base ho0) hb); replace HO489 := Z (Kd.R_elder' (by (with_reducible repeat (first | apply Kd.R_alloc | apply Kd.R_drewN | apply Kd.R_drew)); exact (Kd.R_mono (Kd.R_far (p := ⟨gb495, 0, none⟩) (Kd.R_types HO489.out BK495.out (by decide)) (fun _ hk => hk.2) (.slice Ao33 t491.length co33)) (fun _ h_ => h_.1))) (Kd.R_base ho0) hb); replace HO493 := Z (Kd.R_elder' (by (with_reducible repeat (first | apply Kd.R_alloc | apply Kd.R_drewN | apply Kd.R_drew)); exact (Kd.R_mono (Kd.R_far (p := ⟨gb495, 0, none⟩) (Kd.R_types HO493.out BK495.out (by decide)) (fun _ hk => hk.2) (.slice Ao33 t491.length co33)) (fun _ h_ => h_.1))) (Kd.R_base ho0) hb); replace BK490 := Z (blk_below (g := gb490) (o := .cells #[.slice Ao28 t483.length co28] 34 (0, 0)) (Z27 BK490) hb); replace BK495 := Z (blk_below (g := gb495) (o := .cells #[.slice Ao33 t491.length co33] 34 (0, 0)) (Z14 BK495) hb); replace HB := Z (below_step Z33 hb); (try clear hb); (try clear hb2); (try clear hk); (try clear hi); (try clear ho0)) | ((with_reducible refine gate_dst (N := 8) rfl ?_); (try (refine gate_guard (by rfl) ?_; dsimp only)); refine box_event (by rfl) (N := 8) (by rfl) (cs := #[.slice none 0 0]) (t := 34) Z4 ?_; intro gb500 hg w38 hbox hb; replace HO485 := Z (Kd.R_below (Z7 HO485) hb); replace HO489 := Z (Kd.R_below (Z7 HO489) hb); replace HO493 := Z (Kd.R_below (Z7 HO493) hb); replace HO498 := Z (Kd.R_below (Z7 HO498) hb); have BK500 := Z (hbox); have GW500 := Z ((Z54 : w.heap.size ≤ gb500)); have GE500 := Z ((Z54 : w.heap.size ≤ gb500)); replace HB := Z (below_step Z33 hb); have NB490_500 := Z ((Z46 : gb490 ≠ gb500)); have NB500_490 := Z ((Z47 : gb500 ≠ gb490)); replace BK490 := Z (blk_below (g := gb490) (o := .cells #[.slice Ao28 t483.length co28] 34 (0, 0)) (Z11 BK490) hb); have NB495_500 := Z ((Z48 : gb495 ≠ gb500)); have NB500_495 := Z ((Z49 : gb500 ≠ gb495)); replace BK495 := Z (blk_below (g := gb495) (o := .cells #[.slice Ao33 t491.length co33] 34 (0, 0)) (Z11 BK495) hb); clear hb hbox hg; obtain ⟨Ao39, co39, eo39⟩ := Kd.R_slice HO498.out; subst eo39; have hnb40 := NB500_490.out; have hnc40 := NB490_500.out; have hnb41 := NB500_495.out; have hnc41 := NB495_500.out; have hcz42_0 : w38.cell? ⟨gb500, 0, none⟩ = some (.slice none 0 0) := (blk_cell BK500.out 0).trans rfl; have hfz42_0 := blk_frozen BK500.out 0))
    go_loopg [10] k (fun kq v10 w' => ∃ (x10_1 : Int), v10 = .int .i64 x10_1 ∧ Aside0 (laws_FnBlocks.l0 kq t486 t487 x10_1 t483 t491 = some r) ∧ Aside0 (kq ≤ k) ∧ Aside0 (Kd.R (Kd.int .u32) 47 w' w.heap.size (fun k_ => some k_ ≠ ((.slice Ao28 t483.length co28) : Value).ownBlock ∧ some k_ ≠ ((.slice Ao33 t491.length co33) : Value).ownBlock ∧ some k_ ≠ ((.slice Ao39 t496.length co39) : Value).ownBlock) (.slice Ao30 t487.length co30) t487) ∧ Aside0 (Kd.R (Kd.int .u32) 47 w' w.heap.size (fun k_ => some k_ ≠ ((.slice Ao30 t487.length co30) : Value).ownBlock ∧ some k_ ≠ ((.slice Ao33 t491.length co33) : Value).ownBlock ∧ some k_ ≠ ((.slice Ao39 t496.length co39) : Value).ownBlock) (.slice Ao28 t483.length co28) t483) ∧ Aside0 (Kd.R (Kd.int .u32) 47 w' w.heap.size (fun k_ => some k_ ≠ ((.slice Ao30 t487.length co30) : Value).ownBlock ∧ some k_ ≠ ((.slice Ao28 t483.length co28) : Value).ownBlock ∧ some k_ ≠ ((.slice Ao39 t496.length co39) : Value).ownBlock) (.slice Ao33 t491.length co33) t491) ∧ Aside0 (Kd.R (Kd.int .u32) 47 w' w.heap.size (fun k_ => some k_ ≠ ((.slice Ao30 t487.length co30) : Value).ownBlock ∧ some k_ ≠ ((.slice Ao28 t483.length co28) : Value).ownBlock ∧ some k_ ≠ ((.slice Ao33 t491.length co33) : Value).ownBlock) (.slice Ao39 t496.length co39) t496) ∧ Aside0 (w'.heap[gb490]? = some (.cells #[(.slice Ao28 t483.length co28)] 34 (0, 0))) ∧ Aside0 (w'.heap[gb495]? = some (.cells #[(.slice Ao33 t491.length co33)] 34 (0, 0))) ∧ Aside0 (w'.heap[gb500]? = some (.cells #[(.slice Ao39 t496.length co39)] 34 (0, 0))) ∧ Aside0 (Below w.heap.size w w'))
    case atStart => exact ⟨(0), Z0, H', ⟨Nat.le_refl _⟩, ⟨by (with_reducible repeat (first | apply Kd.R_alloc | apply Kd.R_drewN | apply Kd.R_drew)); exact Kd.R_mono (Kd.R_far (p := ⟨gb500, 0, none⟩) (Kd.R_types HO489.out BK500.out (by decide)) (fun _ hk => hk.2) (.slice Ao39 t496.length co39)) (fun _ hk => ⟨hk.1.1.1, ⟨hk.1.1.2, hk.1.2⟩⟩)⟩, ⟨by (with_reducible repeat (first | apply Kd.R_alloc | apply Kd.R_drewN | apply Kd.R_drew)); exact Kd.R_mono (Kd.R_far (p := ⟨gb500, 0, none⟩) (Kd.R_types HO485.out BK500.out (by decide)) (fun _ hk => hk.2) (.slice Ao39 t496.length co39)) (fun _ hk => ⟨hk.1.1.1, ⟨hk.1.1.2, hk.1.2⟩⟩)⟩, ⟨by (with_reducible repeat (first | apply Kd.R_alloc | apply Kd.R_drewN | apply Kd.R_drew)); exact Kd.R_mono (Kd.R_far (p := ⟨gb500, 0, none⟩) (Kd.R_types HO493.out BK500.out (by decide)) (fun _ hk => hk.2) (.slice Ao39 t496.length co39)) (fun _ hk => ⟨hk.1.1.2, ⟨hk.1.1.1.2, hk.1.2⟩⟩)⟩, ⟨by (with_reducible repeat (first | apply Kd.R_alloc | apply Kd.R_drewN | apply Kd.R_drew)); exact Kd.R_mono (Kd.R_far (p := ⟨gb500, 0, none⟩) (Kd.R_types HO498.out BK500.out (by decide)) (fun _ hk => hk.2) (.slice Ao39 t496.length co39)) (fun _ hk => ⟨hk.1.1.2, ⟨hk.1.1.1.2, hk.1.2⟩⟩)⟩, ⟨by (with_reducible repeat (first | refine blk_drewN ?_ _ | refine blk_drew ?_ | refine blk_alloc ?_ _)); refine blk_far ?_ NB490_500.out _; (with_reducible repeat (first | refine blk_drewN ?_ _ | refine blk_drew ?_ | refine blk_alloc ?_ _)); exact BK490.out⟩, ⟨by (with_reducible repeat (first | refine blk_drewN ?_ _ | refine blk_drew ?_ | refine blk_alloc ?_ _)); refine blk_far ?_ NB495_500.out _; (with_reducible repeat (first | refine blk_drewN ?_ _ | refine blk_drew ?_ | refine blk_alloc ?_ _)); exact BK495.out⟩, ⟨(Z14 BK500)⟩, ⟨Z33⟩⟩
    case round =>
     clear H'
     try clear c1
     try clear c2
     try clear p2
     try clear c3
     try clear c4
     try clear c7
     try clear c7b0
     try clear c7b1
     try clear c7b2
     try clear c7b3
     try clear c13
     try clear c16
     try clear c22
     try clear c23
     try clear c25
     try clear c34
     try clear c38
     try clear c39
     try clear c40
     try clear c41
     try clear hcz11_0
     try clear hcz17_0
     try clear hcz18_0
     try clear hcz24_0
     try clear hcz29_0
     try clear hcz35_0
     try clear hcz36_0
     try clear hcz42_0
     try clear hfz11_0
     try clear hfz17_0
     try clear hfz18_0
     try clear hfz24_0
     try clear hfz29_0
     try clear hfz35_0
     try clear hfz36_0
     try clear hfz42_0
     obtain ⟨x10_1, rfl, HA, HK1, HO_5, HO_491000, HO_496000, HO_501000, BK490, BK495, BK500, HB⟩ := hrel
     cases gk with
     | zero => exact absurd HA.out (by simp [laws_FnBlocks.l0])
     | succ k1 =>
      have H := HA.out
      clear HA
      simp only [laws_FnBlocks.l0] at H
      by_cases c43 : x10_1 < (wrap64 ((t483.length : Int) / 64))
      ·rw [if_pos c43] at H
       have c43b0 : decide (x10_1 < (wrap64 ((t483.length : Int) / 64))) = true := decide_eq_true c43
       clear c43
       replace H := Option.bind_eq_some_iff.mp H
       obtain ⟨⟨t501, t504⟩, A440, H⟩ := H
       replace H : ((impl_BlockOf.f t491 x10_1).bind fun bt505 => (if t504 = true then (if bt505.2 = true then (if x10_1 = t486 then ((laws_padded.f k1 t487).bind fun t509 => ((laws_sameCells.f k1 bt505.1 t509).bind fun t512 => (if t512 = true then (laws_FnBlocks.l0 k1 t486 t487 (wrap64 (x10_1 + 1)) t483 t491) else (some false)))) else ((laws_sameCells.f k1 t501 bt505.1).bind fun t513 => (if t513 = true then (laws_FnBlocks.l0 k1 t486 t487 (wrap64 (x10_1 + 1)) t483 t491) else (some false)))) else (some false)) else (some false))) = some r := H
       have A44 := Aside0.mk A440
       clear A440
       replace H := Option.bind_eq_some_iff.mp H
       obtain ⟨⟨t505, t508⟩, A450, H⟩ := H
       replace H : (if t504 = true then (if t508 = true then (if x10_1 = t486 then ((laws_padded.f k1 t487).bind fun t509 => ((laws_sameCells.f k1 t505 t509).bind fun t512 => (if t512 = true then (laws_FnBlocks.l0 k1 t486 t487 (wrap64 (x10_1 + 1)) t483 t491) else (some false)))) else ((laws_sameCells.f k1 t501 t505).bind fun t513 => (if t513 = true then (laws_FnBlocks.l0 k1 t486 t487 (wrap64 (x10_1 + 1)) t483 t491) else (some false)))) else (some false)) else (some false)) = some r := H
       have A45 := Aside0.mk A450
       clear A450
       by_cases c46 : t504 = true
       ·subst c46
        have H1 : (if t508 = true then (if x10_1 = t486 then ((laws_padded.f k1 t487).bind fun t509 => ((laws_sameCells.f k1 t505 t509).bind fun t512 => (if t512 = true then (laws_FnBlocks.l0 k1 t486 t487 (wrap64 (x10_1 + 1)) t483 t491) else (some false)))) else ((laws_sameCells.f k1 t501 t505).bind fun t513 => (if t513 = true then (laws_FnBlocks.l0 k1 t486 t487 (wrap64 (x10_1 + 1)) t483 t491) else (some false)))) else (some false)) = some r := Z10
        clear H
        have H := H1
        clear H1
        by_cases c47 : t508 = true
        ·subst c47
         have H1 : (if x10_1 = t486 then ((laws_padded.f k1 t487).bind fun t509 => ((laws_sameCells.f k1 t505 t509).bind fun t512 => (if t512 = true then (laws_FnBlocks.l0 k1 t486 t487 (wrap64 (x10_1 + 1)) t483 t491) else (some false)))) else ((laws_sameCells.f k1 t501 t505).bind fun t513 => (if t513 = true then (laws_FnBlocks.l0 k1 t486 t487 (wrap64 (x10_1 + 1)) t483 t491) else (some false)))) = some r := Z10
         clear H
         have H := H1
         clear H1
         by_cases c48 : x10_1 = t486
         ·rw [if_pos c48] at H
          have c48b0 : (x10_1 == t486) = true := beq_iff_eq.mpr c48
          have c48b1 : (x10_1 != t486) = false := bne_eq_false_iff_eq.mpr c48
          clear c48
          replace H := Option.bind_eq_some_iff.mp H
          obtain ⟨t509, A490, H⟩ := H
          replace H : ((laws_sameCells.f k1 t505 t509).bind fun t512 => (if t512 = true then (laws_FnBlocks.l0 k1 t486 t487 (wrap64 (x10_1 + 1)) t483 t491) else (some false))) = some r := H
          have A49 := Aside0.mk A490
          clear A490
          replace H := Option.bind_eq_some_iff.mp H
          obtain ⟨t512, A500, H⟩ := H
          replace H : (if t512 = true then (laws_FnBlocks.l0 k1 t486 t487 (wrap64 (x10_1 + 1)) t483 t491) else (some false)) = some r := H
          have A50 := Aside0.mk A500
          clear A500
          by_cases c51 : t512 = true
          ·subst c51
           have H1 : (laws_FnBlocks.l0 k1 t486 t487 (wrap64 (x10_1 + 1)) t483 t491) = some r := Z10
           clear H
           have H := H1
           clear H1
           have H' := Aside0.mk H
           clear H
           have hnb52 := NB490_495.out
           have hnc52 := NB495_490.out
           have hnb53 := NB490_500.out
           have hnc53 := NB500_490.out
           have hcz54_0 : wr.cell? ⟨gb490, 0, none⟩ = some (.slice Ao28 t483.length co28) := (blk_cell BK490.out 0).trans rfl
           have hfz54_0 := blk_frozen BK490.out 0
           go_wp2_with (first | ((with_reducible refine gate_callee (f := 41) rfl ?_); refine goesL_ (some 61) rfl rfl Try.func41 Z9 rfl #[.agg #[.slice Ao28 t483.length co28], .int .i64 x10_1] rfl Z12 ?_; (with_reducible refine (impl_BlockOf.calls _ _ t483 x10_1 t501 true _ ?side1 ?side2 A44.out).mono ?_); (case side1 => exact (Z13 HO_491000)); (case side2 => exact (Kd.R_reads' HO_491000.out).2.1); rintro e w55 ⟨v502, rfl, ho0, hb⟩; refine ⟨_, rfl, ?_⟩; have HO503 := Z (Kd.R_lower (Kd.R_new' (Kd.R_new' (Kd.R_new' (Kd.R_new' ho0 (Kd.R_lt (Z7 HO_5))) (Kd.R_lt (Z7 HO_491000))) (Kd.R_lt (Z7 HO_496000))) (Kd.R_lt (Z7 HO_501000))) (below_size Z33)); replace HO_5 := Z (Kd.R_elder' (Z7 HO_5) (Kd.R_base ho0) hb); replace HO_491000 := Z (Kd.R_elder' (Z7 HO_491000) (Kd.R_base ho0) hb); replace HO_496000 := Z (Kd.R_elder' (Z7 HO_496000) (Kd.R_base ho0) hb); replace HO_501000 := Z (Kd.R_elder' (Z7 HO_501000) (Kd.R_base ho0) hb); replace BK490 := Z (blk_below (g := gb490) (o := .cells #[.slice Ao28 t483.length co28] 34 (0, 0)) (Z11 BK490) hb); replace BK495 := Z (blk_below (g := gb495) (o := .cells #[.slice Ao33 t491.length co33] 34 (0, 0)) (Z11 BK495) hb); replace BK500 := Z (blk_below (g := gb500) (o := .cells #[.slice Ao39 t496.length co39] 34 (0, 0)) (Z11 BK500) hb); replace HB := Z (below_step Z33 hb); (try clear hb); (try clear hb2); (try clear hk); (try clear hi); (try clear ho0); have hnb56 := NB495_500.out; have hnc56 := NB500_495.out; have hcz57_0 : w55.cell? ⟨gb495, 0, none⟩ = some (.slice Ao33 t491.length co33) := (blk_cell BK495.out 0).trans rfl; have hfz57_0 := blk_frozen BK495.out 0) | ((with_reducible refine gate_callee (f := 41) rfl ?_); refine goesL_ (some 67) rfl rfl Try.func41 Z9 rfl #[.agg #[.slice Ao33 t491.length co33], .int .i64 x10_1] rfl Z12 ?_; (with_reducible refine (impl_BlockOf.calls _ _ t491 x10_1 t505 true _ ?side1 ?side2 A45.out).mono ?_); (case side1 => exact (Z13 HO_496000)); (case side2 => exact (Kd.R_reads' HO_496000.out).2.1); rintro e w58 ⟨v506, rfl, ho0, hb⟩; refine ⟨_, rfl, ?_⟩; have HO507 := Z (Kd.R_lower (Kd.R_new' (Kd.R_new' (Kd.R_new' (Kd.R_new' (Kd.R_new' ho0 (Kd.R_lt (Z7 HO_5))) (Kd.R_lt (Z7 HO_491000))) (Kd.R_lt (Z7 HO_496000))) (Kd.R_lt (Z7 HO_501000))) (Kd.R_lt (Z7 HO503))) (below_size Z33)); replace HO_5 := Z (Kd.R_elder' (Z7 HO_5) (Kd.R_base ho0) hb); replace HO_491000 := Z (Kd.R_elder' (Z7 HO_491000) (Kd.R_base ho0) hb); replace HO_496000 := Z (Kd.R_elder' (Z7 HO_496000) (Kd.R_base ho0) hb); replace HO_501000 := Z (Kd.R_elder' (Z7 HO_501000) (Kd.R_base ho0) hb); replace HO503 := Z (Kd.R_elder' (Z7 HO503) (Kd.R_base ho0) hb); replace BK490 := Z (blk_below (g := gb490) (o := .cells #[.slice Ao28 t483.length co28] 34 (0, 0)) (Z11 BK490) hb); replace BK495 := Z (blk_below (g := gb495) (o := .cells #[.slice Ao33 t491.length co33] 34 (0, 0)) (Z11 BK495) hb); replace BK500 := Z (blk_below (g := gb500) (o := .cells #[.slice Ao39 t496.length co39] 34 (0, 0)) (Z11 BK500) hb); replace HB := Z (below_step Z33 hb); (try clear hb); (try clear hb2); (try clear hk); (try clear hi); (try clear ho0)) | (go_at_call 19; (with_reducible refine (laws_padded.calls k1 _ _ t487 t509 _ ?side1 ?side2 A49.out).mono ?_); (case side1 => exact (Z13 HO_5)); (case side2 => exact (Kd.R_reads' HO_5.out).2.1); rintro e w59 ⟨v510, rfl, ho0, hb⟩; have HO511 := Z (Kd.R_lower (Kd.R_new' (Kd.R_new' (Kd.R_new' (Kd.R_new' (Kd.R_new' (Kd.R_new' ho0 (Kd.R_lt (Z7 HO_5))) (Kd.R_lt (Z7 HO_491000))) (Kd.R_lt (Z7 HO_496000))) (Kd.R_lt (Z7 HO_501000))) (Kd.R_lt (Z7 HO503))) (Kd.R_lt (Z7 HO507))) (below_size Z33)); replace HO_5 := Z (Kd.R_elder' (Z7 HO_5) (Kd.R_base ho0) hb); replace HO_491000 := Z (Kd.R_elder' (Z7 HO_491000) (Kd.R_base ho0) hb); replace HO_496000 := Z (Kd.R_elder' (Z7 HO_496000) (Kd.R_base ho0) hb); replace HO_501000 := Z (Kd.R_elder' (Z7 HO_501000) (Kd.R_base ho0) hb); replace HO503 := Z (Kd.R_elder' (Z7 HO503) (Kd.R_base ho0) hb); replace HO507 := Z (Kd.R_elder' (Z7 HO507) (Kd.R_base ho0) hb); replace BK490 := Z (blk_below (g := gb490) (o := .cells #[.slice Ao28 t483.length co28] 34 (0, 0)) (Z11 BK490) hb); replace BK495 := Z (blk_below (g := gb495) (o := .cells #[.slice Ao33 t491.length co33] 34 (0, 0)) (Z11 BK495) hb); replace BK500 := Z (blk_below (g := gb500) (o := .cells #[.slice Ao39 t496.length co39] 34 (0, 0)) (Z11 BK500) hb); replace HB := Z (below_step Z33 hb); (try clear hb); (try clear hb2); (try clear hk); (try clear hi); (try clear ho0); obtain ⟨Ao60, co60, eo60⟩ := Kd.R_slice HO507.out; subst eo60; obtain ⟨Ao61, co61, eo61⟩ := Kd.R_slice HO511.out; subst eo61) | (go_at_call 18; (with_reducible refine (laws_sameCells.calls k1 _ _ t505 _ _ t509 true _ ?side1 ?side2 ?side3 ?side4 A50.out).mono ?_); (case side1 => exact (Z13 HO507)); (case side2 => exact (Kd.R_reads' HO507.out).2.1); (case side3 => exact (Z13 HO511)); (case side4 => exact (Kd.R_reads' HO511.out).2.1); rintro e w' ⟨rfl, ⟨nd, rfl⟩⟩))
           go_roundg k1
           case measure => have := HK1.out; omega
           case rel => exact ⟨(wrap64 (x10_1 + 1)), Z0, H', ⟨Z3⟩, ⟨(Z28 HO_5)⟩, ⟨(Z28 HO_491000)⟩, ⟨(Z28 HO_496000)⟩, ⟨(Z28 HO_501000)⟩, ⟨(Z11 BK490)⟩, ⟨(Z11 BK495)⟩, ⟨(Z11 BK500)⟩, ⟨Z33⟩⟩
          ·replace c51 := Bool.eq_false_iff.mpr c51
           subst c51
           have H1 : (some false) = some r := by rw [if_neg (show ¬ (false = true) by decide)] at H; exact H
           clear H
           have H := H1
           clear H1
           obtain rfl := Option.some.inj H
           have hnb62 := NB490_495.out
           have hnc62 := NB495_490.out
           have hnb63 := NB490_500.out
           have hnc63 := NB500_490.out
           have hcz64_0 : wr.cell? ⟨gb490, 0, none⟩ = some (.slice Ao28 t483.length co28) := (blk_cell BK490.out 0).trans rfl
           have hfz64_0 := blk_frozen BK490.out 0
           go_wp2_with (first | ((with_reducible refine gate_callee (f := 41) rfl ?_); refine goesL_ (some 61) rfl rfl Try.func41 Z9 rfl #[.agg #[.slice Ao28 t483.length co28], .int .i64 x10_1] rfl Z12 ?_; (with_reducible refine (impl_BlockOf.calls _ _ t483 x10_1 t501 true _ ?side1 ?side2 A44.out).mono ?_); (case side1 => exact (Z13 HO_491000)); (case side2 => exact (Kd.R_reads' HO_491000.out).2.1); rintro e w65 ⟨v502, rfl, ho0, hb⟩; refine ⟨_, rfl, ?_⟩; have HO503 := Z (Kd.R_lower (Kd.R_new' (Kd.R_new' (Kd.R_new' (Kd.R_new' ho0 (Kd.R_lt (Z7 HO_5))) (Kd.R_lt (Z7 HO_491000))) (Kd.R_lt (Z7 HO_496000))) (Kd.R_lt (Z7 HO_501000))) (below_size Z33)); replace HO_5 := Z (Kd.R_elder' (Z7 HO_5) (Kd.R_base ho0) hb); replace HO_491000 := Z (Kd.R_elder' (Z7 HO_491000) (Kd.R_base ho0) hb); replace HO_496000 := Z (Kd.R_elder' (Z7 HO_496000) (Kd.R_base ho0) hb); replace HO_501000 := Z (Kd.R_elder' (Z7 HO_501000) (Kd.R_base ho0) hb); replace BK490 := Z (blk_below (g := gb490) (o := .cells #[.slice Ao28 t483.length co28] 34 (0, 0)) (Z11 BK490) hb); replace BK495 := Z (blk_below (g := gb495) (o := .cells #[.slice Ao33 t491.length co33] 34 (0, 0)) (Z11 BK495) hb); replace BK500 := Z (blk_below (g := gb500) (o := .cells #[.slice Ao39 t496.length co39] 34 (0, 0)) (Z11 BK500) hb); replace HB := Z (below_step Z33 hb); (try clear hb); (try clear hb2); (try clear hk); (try clear hi); (try clear ho0); have hnb66 := NB495_500.out; have hnc66 := NB500_495.out; have hcz67_0 : w65.cell? ⟨gb495, 0, none⟩ = some (.slice Ao33 t491.length co33) := (blk_cell BK495.out 0).trans rfl; have hfz67_0 := blk_frozen BK495.out 0) | ((with_reducible refine gate_callee (f := 41) rfl ?_); refine goesL_ (some 67) rfl rfl Try.func41 Z9 rfl #[.agg #[.slice Ao33 t491.length co33], .int .i64 x10_1] rfl Z12 ?_; (with_reducible refine (impl_BlockOf.calls _ _ t491 x10_1 t505 true _ ?side1 ?side2 A45.out).mono ?_); (case side1 => exact (Z13 HO_496000)); (case side2 => exact (Kd.R_reads' HO_496000.out).2.1); rintro e w68 ⟨v506, rfl, ho0, hb⟩; refine ⟨_, rfl, ?_⟩; have HO507 := Z (Kd.R_lower (Kd.R_new' (Kd.R_new' (Kd.R_new' (Kd.R_new' (Kd.R_new' ho0 (Kd.R_lt (Z7 HO_5))) (Kd.R_lt (Z7 HO_491000))) (Kd.R_lt (Z7 HO_496000))) (Kd.R_lt (Z7 HO_501000))) (Kd.R_lt (Z7 HO503))) (below_size Z33)); replace HO_5 := Z (Kd.R_elder' (Z7 HO_5) (Kd.R_base ho0) hb); replace HO_491000 := Z (Kd.R_elder' (Z7 HO_491000) (Kd.R_base ho0) hb); replace HO_496000 := Z (Kd.R_elder' (Z7 HO_496000) (Kd.R_base ho0) hb); replace HO_501000 := Z (Kd.R_elder' (Z7 HO_501000) (Kd.R_base ho0) hb); replace HO503 := Z (Kd.R_elder' (Z7 HO503) (Kd.R_base ho0) hb); replace BK490 := Z (blk_below (g := gb490) (o := .cells #[.slice Ao28 t483.length co28] 34 (0, 0)) (Z11 BK490) hb); replace BK495 := Z (blk_below (g := gb495) (o := .cells #[.slice Ao33 t491.length co33] 34 (0, 0)) (Z11 BK495) hb); replace BK500 := Z (blk_below (g := gb500) (o := .cells #[.slice Ao39 t496.length co39] 34 (0, 0)) (Z11 BK500) hb); replace HB := Z (below_step Z33 hb); (try clear hb); (try clear hb2); (try clear hk); (try clear hi); (try clear ho0)) | (go_at_call 19; (with_reducible refine (laws_padded.calls k1 _ _ t487 t509 _ ?side1 ?side2 A49.out).mono ?_); (case side1 => exact (Z13 HO_5)); (case side2 => exact (Kd.R_reads' HO_5.out).2.1); rintro e w69 ⟨v510, rfl, ho0, hb⟩; have HO511 := Z (Kd.R_lower (Kd.R_new' (Kd.R_new' (Kd.R_new' (Kd.R_new' (Kd.R_new' (Kd.R_new' ho0 (Kd.R_lt (Z7 HO_5))) (Kd.R_lt (Z7 HO_491000))) (Kd.R_lt (Z7 HO_496000))) (Kd.R_lt (Z7 HO_501000))) (Kd.R_lt (Z7 HO503))) (Kd.R_lt (Z7 HO507))) (below_size Z33)); replace HO_5 := Z (Kd.R_elder' (Z7 HO_5) (Kd.R_base ho0) hb); replace HO_491000 := Z (Kd.R_elder' (Z7 HO_491000) (Kd.R_base ho0) hb); replace HO_496000 := Z (Kd.R_elder' (Z7 HO_496000) (Kd.R_base ho0) hb); replace HO_501000 := Z (Kd.R_elder' (Z7 HO_501000) (Kd.R_base ho0) hb); replace HO503 := Z (Kd.R_elder' (Z7 HO503) (Kd.R_base ho0) hb); replace HO507 := Z (Kd.R_elder' (Z7 HO507) (Kd.R_base ho0) hb); replace BK490 := Z (blk_below (g := gb490) (o := .cells #[.slice Ao28 t483.length co28] 34 (0, 0)) (Z11 BK490) hb); replace BK495 := Z (blk_below (g := gb495) (o := .cells #[.slice Ao33 t491.length co33] 34 (0, 0)) (Z11 BK495) hb); replace BK500 := Z (blk_below (g := gb500) (o := .cells #[.slice Ao39 t496.length co39] 34 (0, 0)) (Z11 BK500) hb); replace HB := Z (below_step Z33 hb); (try clear hb); (try clear hb2); (try clear hk); (try clear hi); (try clear ho0); obtain ⟨Ao70, co70, eo70⟩ := Kd.R_slice HO507.out; subst eo70; obtain ⟨Ao71, co71, eo71⟩ := Kd.R_slice HO511.out; subst eo71) | (go_at_call 18; (with_reducible refine (laws_sameCells.calls k1 _ _ t505 _ _ t509 false _ ?side1 ?side2 ?side3 ?side4 A50.out).mono ?_); (case side1 => exact (Z13 HO507)); (case side2 => exact (Kd.R_reads' HO507.out).2.1); (case side3 => exact (Z13 HO511)); (case side4 => exact (Kd.R_reads' HO511.out).2.1); rintro e w' ⟨rfl, ⟨nd, rfl⟩⟩))
           go_ret
           exact ⟨Z8, Z33⟩
         ·rw [if_neg c48] at H
          have c48b0 : (x10_1 == t486) = false := beq_eq_false_iff_ne.mpr c48
          have c48b1 : (x10_1 != t486) = true := bne_iff_ne.mpr c48
          replace H := Option.bind_eq_some_iff.mp H
          obtain ⟨t513, A720, H⟩ := H
          replace H : (if t513 = true then (laws_FnBlocks.l0 k1 t486 t487 (wrap64 (x10_1 + 1)) t483 t491) else (some false)) = some r := H
          have A72 := Aside0.mk A720
          clear A720
          by_cases c73 : t513 = true
          ·subst c73
           have H1 : (laws_FnBlocks.l0 k1 t486 t487 (wrap64 (x10_1 + 1)) t483 t491) = some r := Z10
           clear H
           have H := H1
           clear H1
           have H' := Aside0.mk H
           clear H
           have hnb74 := NB490_495.out
           have hnc74 := NB495_490.out
           have hnb75 := NB490_500.out
           have hnc75 := NB500_490.out
           have hcz76_0 : wr.cell? ⟨gb490, 0, none⟩ = some (.slice Ao28 t483.length co28) := (blk_cell BK490.out 0).trans rfl
           have hfz76_0 := blk_frozen BK490.out 0
           go_wp2_with (first | ((with_reducible refine gate_callee (f := 41) rfl ?_); refine goesL_ (some 61) rfl rfl Try.func41 Z9 rfl #[.agg #[.slice Ao28 t483.length co28], .int .i64 x10_1] rfl Z12 ?_; (with_reducible refine (impl_BlockOf.calls _ _ t483 x10_1 t501 true _ ?side1 ?side2 A44.out).mono ?_); (case side1 => exact (Z13 HO_491000)); (case side2 => exact (Kd.R_reads' HO_491000.out).2.1); rintro e w77 ⟨v502, rfl, ho0, hb⟩; refine ⟨_, rfl, ?_⟩; have HO503 := Z (Kd.R_lower (Kd.R_new' (Kd.R_new' (Kd.R_new' (Kd.R_new' ho0 (Kd.R_lt (Z7 HO_5))) (Kd.R_lt (Z7 HO_491000))) (Kd.R_lt (Z7 HO_496000))) (Kd.R_lt (Z7 HO_501000))) (below_size Z33)); replace HO_5 := Z (Kd.R_elder' (Z7 HO_5) (Kd.R_base ho0) hb); replace HO_491000 := Z (Kd.R_elder' (Z7 HO_491000) (Kd.R_base ho0) hb); replace HO_496000 := Z (Kd.R_elder' (Z7 HO_496000) (Kd.R_base ho0) hb); replace HO_501000 := Z (Kd.R_elder' (Z7 HO_501000) (Kd.R_base ho0) hb); replace BK490 := Z (blk_below (g := gb490) (o := .cells #[.slice Ao28 t483.length co28] 34 (0, 0)) (Z11 BK490) hb); replace BK495 := Z (blk_below (g := gb495) (o := .cells #[.slice Ao33 t491.length co33] 34 (0, 0)) (Z11 BK495) hb); replace BK500 := Z (blk_below (g := gb500) (o := .cells #[.slice Ao39 t496.length co39] 34 (0, 0)) (Z11 BK500) hb); replace HB := Z (below_step Z33 hb); (try clear hb); (try clear hb2); (try clear hk); (try clear hi); (try clear ho0); have hnb78 := NB495_500.out; have hnc78 := NB500_495.out; have hcz79_0 : w77.cell? ⟨gb495, 0, none⟩ = some (.slice Ao33 t491.length co33) := (blk_cell BK495.out 0).trans rfl; have hfz79_0 := blk_frozen BK495.out 0) | ((with_reducible refine gate_callee (f := 41) rfl ?_); refine goesL_ (some 67) rfl rfl Try.func41 Z9 rfl #[.agg #[.slice Ao33 t491.length co33], .int .i64 x10_1] rfl Z12 ?_; (with_reducible refine (impl_BlockOf.calls _ _ t491 x10_1 t505 true _ ?side1 ?side2 A45.out).mono ?_); (case side1 => exact (Z13 HO_496000)); (case side2 => exact (Kd.R_reads' HO_496000.out).2.1); rintro e w80 ⟨v506, rfl, ho0, hb⟩; refine ⟨_, rfl, ?_⟩; have HO507 := Z (Kd.R_lower (Kd.R_new' (Kd.R_new' (Kd.R_new' (Kd.R_new' (Kd.R_new' ho0 (Kd.R_lt (Z7 HO_5))) (Kd.R_lt (Z7 HO_491000))) (Kd.R_lt (Z7 HO_496000))) (Kd.R_lt (Z7 HO_501000))) (Kd.R_lt (Z7 HO503))) (below_size Z33)); replace HO_5 := Z (Kd.R_elder' (Z7 HO_5) (Kd.R_base ho0) hb); replace HO_491000 := Z (Kd.R_elder' (Z7 HO_491000) (Kd.R_base ho0) hb); replace HO_496000 := Z (Kd.R_elder' (Z7 HO_496000) (Kd.R_base ho0) hb); replace HO_501000 := Z (Kd.R_elder' (Z7 HO_501000) (Kd.R_base ho0) hb); replace HO503 := Z (Kd.R_elder' (Z7 HO503) (Kd.R_base ho0) hb); replace BK490 := Z (blk_below (g := gb490) (o := .cells #[.slice Ao28 t483.length co28] 34 (0, 0)) (Z11 BK490) hb); replace BK495 := Z (blk_below (g := gb495) (o := .cells #[.slice Ao33 t491.length co33] 34 (0, 0)) (Z11 BK495) hb); replace BK500 := Z (blk_below (g := gb500) (o := .cells #[.slice Ao39 t496.length co39] 34 (0, 0)) (Z11 BK500) hb); replace HB := Z (below_step Z33 hb); (try clear hb); (try clear hb2); (try clear hk); (try clear hi); (try clear ho0); obtain ⟨Ao81, co81, eo81⟩ := Kd.R_slice HO503.out; subst eo81; obtain ⟨Ao82, co82, eo82⟩ := Kd.R_slice HO507.out; subst eo82) | (go_at_call 18; (with_reducible refine (laws_sameCells.calls k1 _ _ t501 _ _ t505 true _ ?side1 ?side2 ?side3 ?side4 A72.out).mono ?_); (case side1 => exact (Z13 HO503)); (case side2 => exact (Kd.R_reads' HO503.out).2.1); (case side3 => exact (Z13 HO507)); (case side4 => exact (Kd.R_reads' HO507.out).2.1); rintro e w' ⟨rfl, ⟨nd, rfl⟩⟩))
           go_roundg k1
           case measure => have := HK1.out; omega
           case rel => exact ⟨(wrap64 (x10_1 + 1)), Z0, H', ⟨Z3⟩, ⟨(Z29 HO_5)⟩, ⟨(Z29 HO_491000)⟩, ⟨(Z29 HO_496000)⟩, ⟨(Z29 HO_501000)⟩, ⟨(Z11 BK490)⟩, ⟨(Z11 BK495)⟩, ⟨(Z11 BK500)⟩, ⟨Z33⟩⟩
          ·replace c73 := Bool.eq_false_iff.mpr c73
           subst c73
           have H1 : (some false) = some r := by rw [if_neg (show ¬ (false = true) by decide)] at H; exact H
           clear H
           have H := H1
           clear H1
           obtain rfl := Option.some.inj H
           have hnb83 := NB490_495.out
           have hnc83 := NB495_490.out
           have hnb84 := NB490_500.out
           have hnc84 := NB500_490.out
           have hcz85_0 : wr.cell? ⟨gb490, 0, none⟩ = some (.slice Ao28 t483.length co28) := (blk_cell BK490.out 0).trans rfl
           have hfz85_0 := blk_frozen BK490.out 0
           go_wp2_with (first | ((with_reducible refine gate_callee (f := 41) rfl ?_); refine goesL_ (some 61) rfl rfl Try.func41 Z9 rfl #[.agg #[.slice Ao28 t483.length co28], .int .i64 x10_1] rfl Z12 ?_; (with_reducible refine (impl_BlockOf.calls _ _ t483 x10_1 t501 true _ ?side1 ?side2 A44.out).mono ?_); (case side1 => exact (Z13 HO_491000)); (case side2 => exact (Kd.R_reads' HO_491000.out).2.1); rintro e w86 ⟨v502, rfl, ho0, hb⟩; refine ⟨_, rfl, ?_⟩; have HO503 := Z (Kd.R_lower (Kd.R_new' (Kd.R_new' (Kd.R_new' (Kd.R_new' ho0 (Kd.R_lt (Z7 HO_5))) (Kd.R_lt (Z7 HO_491000))) (Kd.R_lt (Z7 HO_496000))) (Kd.R_lt (Z7 HO_501000))) (below_size Z33)); replace HO_5 := Z (Kd.R_elder' (Z7 HO_5) (Kd.R_base ho0) hb); replace HO_491000 := Z (Kd.R_elder' (Z7 HO_491000) (Kd.R_base ho0) hb); replace HO_496000 := Z (Kd.R_elder' (Z7 HO_496000) (Kd.R_base ho0) hb); replace HO_501000 := Z (Kd.R_elder' (Z7 HO_501000) (Kd.R_base ho0) hb); replace BK490 := Z (blk_below (g := gb490) (o := .cells #[.slice Ao28 t483.length co28] 34 (0, 0)) (Z11 BK490) hb); replace BK495 := Z (blk_below (g := gb495) (o := .cells #[.slice Ao33 t491.length co33] 34 (0, 0)) (Z11 BK495) hb); replace BK500 := Z (blk_below (g := gb500) (o := .cells #[.slice Ao39 t496.length co39] 34 (0, 0)) (Z11 BK500) hb); replace HB := Z (below_step Z33 hb); (try clear hb); (try clear hb2); (try clear hk); (try clear hi); (try clear ho0); have hnb87 := NB495_500.out; have hnc87 := NB500_495.out; have hcz88_0 : w86.cell? ⟨gb495, 0, none⟩ = some (.slice Ao33 t491.length co33) := (blk_cell BK495.out 0).trans rfl; have hfz88_0 := blk_frozen BK495.out 0) | ((with_reducible refine gate_callee (f := 41) rfl ?_); refine goesL_ (some 67) rfl rfl Try.func41 Z9 rfl #[.agg #[.slice Ao33 t491.length co33], .int .i64 x10_1] rfl Z12 ?_; (with_reducible refine (impl_BlockOf.calls _ _ t491 x10_1 t505 true _ ?side1 ?side2 A45.out).mono ?_); (case side1 => exact (Z13 HO_496000)); (case side2 => exact (Kd.R_reads' HO_496000.out).2.1); rintro e w89 ⟨v506, rfl, ho0, hb⟩; refine ⟨_, rfl, ?_⟩; have HO507 := Z (Kd.R_lower (Kd.R_new' (Kd.R_new' (Kd.R_new' (Kd.R_new' (Kd.R_new' ho0 (Kd.R_lt (Z7 HO_5))) (Kd.R_lt (Z7 HO_491000))) (Kd.R_lt (Z7 HO_496000))) (Kd.R_lt (Z7 HO_501000))) (Kd.R_lt (Z7 HO503))) (below_size Z33)); replace HO_5 := Z (Kd.R_elder' (Z7 HO_5) (Kd.R_base ho0) hb); replace HO_491000 := Z (Kd.R_elder' (Z7 HO_491000) (Kd.R_base ho0) hb); replace HO_496000 := Z (Kd.R_elder' (Z7 HO_496000) (Kd.R_base ho0) hb); replace HO_501000 := Z (Kd.R_elder' (Z7 HO_501000) (Kd.R_base ho0) hb); replace HO503 := Z (Kd.R_elder' (Z7 HO503) (Kd.R_base ho0) hb); replace BK490 := Z (blk_below (g := gb490) (o := .cells #[.slice Ao28 t483.length co28] 34 (0, 0)) (Z11 BK490) hb); replace BK495 := Z (blk_below (g := gb495) (o := .cells #[.slice Ao33 t491.length co33] 34 (0, 0)) (Z11 BK495) hb); replace BK500 := Z (blk_below (g := gb500) (o := .cells #[.slice Ao39 t496.length co39] 34 (0, 0)) (Z11 BK500) hb); replace HB := Z (below_step Z33 hb); (try clear hb); (try clear hb2); (try clear hk); (try clear hi); (try clear ho0); obtain ⟨Ao90, co90, eo90⟩ := Kd.R_slice HO503.out; subst eo90; obtain ⟨Ao91, co91, eo91⟩ := Kd.R_slice HO507.out; subst eo91) | (go_at_call 18; (with_reducible refine (laws_sameCells.calls k1 _ _ t501 _ _ t505 false _ ?side1 ?side2 ?side3 ?side4 A72.out).mono ?_); (case side1 => exact (Z13 HO503)); (case side2 => exact (Kd.R_reads' HO503.out).2.1); (case side3 => exact (Z13 HO507)); (case side4 => exact (Kd.R_reads' HO507.out).2.1); rintro e w' ⟨rfl, ⟨nd, rfl⟩⟩))
           go_ret
           exact ⟨Z8, Z33⟩
        ·replace c47 := Bool.eq_false_iff.mpr c47
         subst c47
         have H1 : (some false) = some r := by rw [if_neg (show ¬ (false = true) by decide)] at H; exact H
         clear H
         have H := H1
         clear H1
         obtain rfl := Option.some.inj H
         have hnb92 := NB490_495.out
         have hnc92 := NB495_490.out
         have hnb93 := NB490_500.out
         have hnc93 := NB500_490.out
         have hcz94_0 : wr.cell? ⟨gb490, 0, none⟩ = some (.slice Ao28 t483.length co28) := (blk_cell BK490.out 0).trans rfl
         have hfz94_0 := blk_frozen BK490.out 0
         go_wp2_with (first | ((with_reducible refine gate_callee (f := 41) rfl ?_); refine goesL_ (some 61) rfl rfl Try.func41 Z9 rfl #[.agg #[.slice Ao28 t483.length co28], .int .i64 x10_1] rfl Z12 ?_; (with_reducible refine (impl_BlockOf.calls _ _ t483 x10_1 t501 true _ ?side1 ?side2 A44.out).mono ?_); (case side1 => exact (Z13 HO_491000)); (case side2 => exact (Kd.R_reads' HO_491000.out).2.1); rintro e w95 ⟨v502, rfl, ho0, hb⟩; refine ⟨_, rfl, ?_⟩; have HO503 := Z (Kd.R_lower (Kd.R_new' (Kd.R_new' (Kd.R_new' (Kd.R_new' ho0 (Kd.R_lt (Z7 HO_5))) (Kd.R_lt (Z7 HO_491000))) (Kd.R_lt (Z7 HO_496000))) (Kd.R_lt (Z7 HO_501000))) (below_size Z33)); replace HO_5 := Z (Kd.R_elder' (Z7 HO_5) (Kd.R_base ho0) hb); replace HO_491000 := Z (Kd.R_elder' (Z7 HO_491000) (Kd.R_base ho0) hb); replace HO_496000 := Z (Kd.R_elder' (Z7 HO_496000) (Kd.R_base ho0) hb); replace HO_501000 := Z (Kd.R_elder' (Z7 HO_501000) (Kd.R_base ho0) hb); replace BK490 := Z (blk_below (g := gb490) (o := .cells #[.slice Ao28 t483.length co28] 34 (0, 0)) (Z11 BK490) hb); replace BK495 := Z (blk_below (g := gb495) (o := .cells #[.slice Ao33 t491.length co33] 34 (0, 0)) (Z11 BK495) hb); replace BK500 := Z (blk_below (g := gb500) (o := .cells #[.slice Ao39 t496.length co39] 34 (0, 0)) (Z11 BK500) hb); replace HB := Z (below_step Z33 hb); (try clear hb); (try clear hb2); (try clear hk); (try clear hi); (try clear ho0); have hnb96 := NB495_500.out; have hnc96 := NB500_495.out; have hcz97_0 : w95.cell? ⟨gb495, 0, none⟩ = some (.slice Ao33 t491.length co33) := (blk_cell BK495.out 0).trans rfl; have hfz97_0 := blk_frozen BK495.out 0) | ((with_reducible refine gate_callee (f := 41) rfl ?_); refine goesL_ (some 67) rfl rfl Try.func41 Z9 rfl #[.agg #[.slice Ao33 t491.length co33], .int .i64 x10_1] rfl Z12 ?_; (with_reducible refine (impl_BlockOf.calls _ _ t491 x10_1 t505 false _ ?side1 ?side2 A45.out).mono ?_); (case side1 => exact (Z13 HO_496000)); (case side2 => exact (Kd.R_reads' HO_496000.out).2.1); rintro e w98 ⟨v506, rfl, ho0, hb⟩; refine ⟨_, rfl, ?_⟩; have HO507 := Z (Kd.R_lower (Kd.R_new' (Kd.R_new' (Kd.R_new' (Kd.R_new' (Kd.R_new' ho0 (Kd.R_lt (Z7 HO_5))) (Kd.R_lt (Z7 HO_491000))) (Kd.R_lt (Z7 HO_496000))) (Kd.R_lt (Z7 HO_501000))) (Kd.R_lt (Z7 HO503))) (below_size Z33)); replace HO_5 := Z (Kd.R_elder' (Z7 HO_5) (Kd.R_base ho0) hb); replace HO_491000 := Z (Kd.R_elder' (Z7 HO_491000) (Kd.R_base ho0) hb); replace HO_496000 := Z (Kd.R_elder' (Z7 HO_496000) (Kd.R_base ho0) hb); replace HO_501000 := Z (Kd.R_elder' (Z7 HO_501000) (Kd.R_base ho0) hb); replace HO503 := Z (Kd.R_elder' (Z7 HO503) (Kd.R_base ho0) hb); replace BK490 := Z (blk_below (g := gb490) (o := .cells #[.slice Ao28 t483.length co28] 34 (0, 0)) (Z11 BK490) hb); replace BK495 := Z (blk_below (g := gb495) (o := .cells #[.slice Ao33 t491.length co33] 34 (0, 0)) (Z11 BK495) hb); replace BK500 := Z (blk_below (g := gb500) (o := .cells #[.slice Ao39 t496.length co39] 34 (0, 0)) (Z11 BK500) hb); replace HB := Z (below_step Z33 hb); (try clear hb); (try clear hb2); (try clear hk); (try clear hi); (try clear ho0)))
         go_ret
         exact ⟨Z8, Z33⟩
       ·replace c46 := Bool.eq_false_iff.mpr c46
        subst c46
        have H1 : (some false) = some r := by rw [if_neg (show ¬ (false = true) by decide)] at H; exact H
        clear H
        have H := H1
        clear H1
        obtain rfl := Option.some.inj H
        have hnb99 := NB490_495.out
        have hnc99 := NB495_490.out
        have hnb100 := NB490_500.out
        have hnc100 := NB500_490.out
        have hcz101_0 : wr.cell? ⟨gb490, 0, none⟩ = some (.slice Ao28 t483.length co28) := (blk_cell BK490.out 0).trans rfl
        have hfz101_0 := blk_frozen BK490.out 0
        go_wp2_with (first | ((with_reducible refine gate_callee (f := 41) rfl ?_); refine goesL_ (some 61) rfl rfl Try.func41 Z9 rfl #[.agg #[.slice Ao28 t483.length co28], .int .i64 x10_1] rfl Z12 ?_; (with_reducible refine (impl_BlockOf.calls _ _ t483 x10_1 t501 false _ ?side1 ?side2 A44.out).mono ?_); (case side1 => exact (Z13 HO_491000)); (case side2 => exact (Kd.R_reads' HO_491000.out).2.1); rintro e w102 ⟨v502, rfl, ho0, hb⟩; refine ⟨_, rfl, ?_⟩; have HO503 := Z (Kd.R_lower (Kd.R_new' (Kd.R_new' (Kd.R_new' (Kd.R_new' ho0 (Kd.R_lt (Z7 HO_5))) (Kd.R_lt (Z7 HO_491000))) (Kd.R_lt (Z7 HO_496000))) (Kd.R_lt (Z7 HO_501000))) (below_size Z33)); replace HO_5 := Z (Kd.R_elder' (Z7 HO_5) (Kd.R_base ho0) hb); replace HO_491000 := Z (Kd.R_elder' (Z7 HO_491000) (Kd.R_base ho0) hb); replace HO_496000 := Z (Kd.R_elder' (Z7 HO_496000) (Kd.R_base ho0) hb); replace HO_501000 := Z (Kd.R_elder' (Z7 HO_501000) (Kd.R_base ho0) hb); replace BK490 := Z (blk_below (g := gb490) (o := .cells #[.slice Ao28 t483.length co28] 34 (0, 0)) (Z11 BK490) hb); replace BK495 := Z (blk_below (g := gb495) (o := .cells #[.slice Ao33 t491.length co33] 34 (0, 0)) (Z11 BK495) hb); replace BK500 := Z (blk_below (g := gb500) (o := .cells #[.slice Ao39 t496.length co39] 34 (0, 0)) (Z11 BK500) hb); replace HB := Z (below_step Z33 hb); (try clear hb); (try clear hb2); (try clear hk); (try clear hi); (try clear ho0); have hnb103 := NB495_500.out; have hnc103 := NB500_495.out; have hcz104_0 : w102.cell? ⟨gb495, 0, none⟩ = some (.slice Ao33 t491.length co33) := (blk_cell BK495.out 0).trans rfl; have hfz104_0 := blk_frozen BK495.out 0) | ((with_reducible refine gate_callee (f := 41) rfl ?_); refine goesL_ (some 67) rfl rfl Try.func41 Z9 rfl #[.agg #[.slice Ao33 t491.length co33], .int .i64 x10_1] rfl Z12 ?_; (with_reducible refine (impl_BlockOf.calls _ _ t491 x10_1 t505 t508 _ ?side1 ?side2 A45.out).mono ?_); (case side1 => exact (Z13 HO_496000)); (case side2 => exact (Kd.R_reads' HO_496000.out).2.1); rintro e w105 ⟨v506, rfl, ho0, hb⟩; refine ⟨_, rfl, ?_⟩; have HO507 := Z (Kd.R_lower (Kd.R_new' (Kd.R_new' (Kd.R_new' (Kd.R_new' (Kd.R_new' ho0 (Kd.R_lt (Z7 HO_5))) (Kd.R_lt (Z7 HO_491000))) (Kd.R_lt (Z7 HO_496000))) (Kd.R_lt (Z7 HO_501000))) (Kd.R_lt (Z7 HO503))) (below_size Z33)); replace HO_5 := Z (Kd.R_elder' (Z7 HO_5) (Kd.R_base ho0) hb); replace HO_491000 := Z (Kd.R_elder' (Z7 HO_491000) (Kd.R_base ho0) hb); replace HO_496000 := Z (Kd.R_elder' (Z7 HO_496000) (Kd.R_base ho0) hb); replace HO_501000 := Z (Kd.R_elder' (Z7 HO_501000) (Kd.R_base ho0) hb); replace HO503 := Z (Kd.R_elder' (Z7 HO503) (Kd.R_base ho0) hb); replace BK490 := Z (blk_below (g := gb490) (o := .cells #[.slice Ao28 t483.length co28] 34 (0, 0)) (Z11 BK490) hb); replace BK495 := Z (blk_below (g := gb495) (o := .cells #[.slice Ao33 t491.length co33] 34 (0, 0)) (Z11 BK495) hb); replace BK500 := Z (blk_below (g := gb500) (o := .cells #[.slice Ao39 t496.length co39] 34 (0, 0)) (Z11 BK500) hb); replace HB := Z (below_step Z33 hb); (try clear hb); (try clear hb2); (try clear hk); (try clear hi); (try clear ho0)))
        go_ret
        exact ⟨Z8, Z33⟩
      ·rw [if_neg c43] at H
       have c43b0 : decide (x10_1 < (wrap64 ((t483.length : Int) / 64))) = false := decide_eq_false c43
       clear c43
       replace H := Option.bind_eq_some_iff.mp H
       obtain ⟨⟨t514, t517⟩, A1060, H⟩ := H
       replace H : ((impl_BlockOf.f t514 0).bind fun bt519 => (if t517 = true then (if bt519.2 = true then ((laws_padded.f k1 t487).bind fun t523 => ((laws_sameCells.f k1 bt519.1 t523).bind fun t526 => (if t526 = true then (some ((t491.length : Int) == (t483.length : Int))) else (some false)))) else (some false)) else (some false))) = some r := H
       have A106 := Aside0.mk A1060
       clear A1060
       replace H := Option.bind_eq_some_iff.mp H
       obtain ⟨⟨t519, t522⟩, A1070, H⟩ := H
       replace H : (if t517 = true then (if t522 = true then ((laws_padded.f k1 t487).bind fun t523 => ((laws_sameCells.f k1 t519 t523).bind fun t526 => (if t526 = true then (some ((t491.length : Int) == (t483.length : Int))) else (some false)))) else (some false)) else (some false)) = some r := H
       have A107 := Aside0.mk A1070
       clear A1070
       by_cases c108 : t517 = true
       ·subst c108
        have H1 : (if t522 = true then ((laws_padded.f k1 t487).bind fun t523 => ((laws_sameCells.f k1 t519 t523).bind fun t526 => (if t526 = true then (some ((t491.length : Int) == (t483.length : Int))) else (some false)))) else (some false)) = some r := Z10
        clear H
        have H := H1
        clear H1
        by_cases c109 : t522 = true
        ·subst c109
         have H1 : ((laws_padded.f k1 t487).bind fun t523 => ((laws_sameCells.f k1 t519 t523).bind fun t526 => (if t526 = true then (some ((t491.length : Int) == (t483.length : Int))) else (some false)))) = some r := Z10
         clear H
         have H := H1
         clear H1
         replace H := Option.bind_eq_some_iff.mp H
         obtain ⟨t523, A1100, H⟩ := H
         replace H : ((laws_sameCells.f k1 t519 t523).bind fun t526 => (if t526 = true then (some ((t491.length : Int) == (t483.length : Int))) else (some false))) = some r := H
         have A110 := Aside0.mk A1100
         clear A1100
         replace H := Option.bind_eq_some_iff.mp H
         obtain ⟨t526, A1110, H⟩ := H
         replace H : (if t526 = true then (some ((t491.length : Int) == (t483.length : Int))) else (some false)) = some r := H
         have A111 := Aside0.mk A1110
         clear A1110
         by_cases c112 : t526 = true
         ·subst c112
          have H1 : (some ((t491.length : Int) == (t483.length : Int))) = some r := Z10
          clear H
          have H := H1
          clear H1
          obtain rfl := Option.some.inj H
          have hnb113 := NB490_495.out
          have hnc113 := NB495_490.out
          have hnb114 := NB490_500.out
          have hnc114 := NB500_490.out
          have hcz115_0 : wr.cell? ⟨gb490, 0, none⟩ = some (.slice Ao28 t483.length co28) := (blk_cell BK490.out 0).trans rfl
          have hfz115_0 := blk_frozen BK490.out 0
          have hnb116 := NB495_500.out
          have hnc116 := NB500_495.out
          have hcz117_0 : wr.cell? ⟨gb495, 0, none⟩ = some (.slice Ao33 t491.length co33) := (blk_cell BK495.out 0).trans rfl
          have hfz117_0 := blk_frozen BK495.out 0
          go_wp2_with (first | ((with_reducible refine gate_callee (f := 32) rfl ?_); refine goesL_ (some 102) rfl rfl Try.func32 Z9 rfl #[.agg #[.slice Ao33 t491.length co33], .int .i64 t486, .int .i64 0] rfl Z12 ?_; (with_reducible refine (impl_CopyBlock.calls _ _ t491 t486 0 t514 true _ ?side1 ?side2 A106.out).mono ?_); (case side1 => exact (Z13 HO_496000)); (case side2 => exact (Kd.R_reads' HO_496000.out).2.1); rintro e w118 ⟨v515, rfl, ho0, hb⟩; refine ⟨_, rfl, ?_⟩; have HO516 := Z (Kd.R_lower (Kd.R_new' (Kd.R_new' (Kd.R_new' (Kd.R_new' ho0 (Kd.R_lt (Z7 HO_5))) (Kd.R_lt (Z7 HO_491000))) (Kd.R_lt (Z7 HO_496000))) (Kd.R_lt (Z7 HO_501000))) (below_size Z33)); replace HO_5 := Z (Kd.R_elder' (Z7 HO_5) (Kd.R_base ho0) hb); replace HO_491000 := Z (Kd.R_elder' (Z7 HO_491000) (Kd.R_base ho0) hb); replace HO_496000 := Z (Kd.R_elder' (Z7 HO_496000) (Kd.R_base ho0) hb); replace HO_501000 := Z (Kd.R_elder' (Z7 HO_501000) (Kd.R_base ho0) hb); replace BK490 := Z (blk_below (g := gb490) (o := .cells #[.slice Ao28 t483.length co28] 34 (0, 0)) (Z11 BK490) hb); replace BK495 := Z (blk_below (g := gb495) (o := .cells #[.slice Ao33 t491.length co33] 34 (0, 0)) (Z11 BK495) hb); replace BK500 := Z (blk_below (g := gb500) (o := .cells #[.slice Ao39 t496.length co39] 34 (0, 0)) (Z11 BK500) hb); replace HB := Z (below_step Z33 hb); (try clear hb); (try clear hb2); (try clear hk); (try clear hi); (try clear ho0)) | ((with_reducible refine gate_dst (N := 15) rfl ?_); (try (refine gate_guard (by rfl) ?_; dsimp only)); refine box_event (by rfl) (N := 15) (by rfl) (cs := #[.slice none 0 0]) (t := 34) Z4 ?_; intro gb518 hg w119 hbox hb; replace HO_5 := Z (Kd.R_below (Z7 HO_5) hb); replace HO_491000 := Z (Kd.R_below (Z7 HO_491000) hb); replace HO_496000 := Z (Kd.R_below (Z7 HO_496000) hb); replace HO_501000 := Z (Kd.R_below (Z7 HO_501000) hb); replace HO516 := Z (Kd.R_below (Z7 HO516) hb); have BK518 := Z (hbox); have GW518 := Z ((Z54 : w.heap.size ≤ gb518)); have GE518 := Z ((Z54 : w.heap.size ≤ gb518)); replace HB := Z (below_step Z33 hb); have NB490_518 := Z ((Z46 : gb490 ≠ gb518)); have NB518_490 := Z ((Z47 : gb518 ≠ gb490)); replace BK490 := Z (blk_below (g := gb490) (o := .cells #[.slice Ao28 t483.length co28] 34 (0, 0)) (Z11 BK490) hb); have NB495_518 := Z ((Z48 : gb495 ≠ gb518)); have NB518_495 := Z ((Z49 : gb518 ≠ gb495)); replace BK495 := Z (blk_below (g := gb495) (o := .cells #[.slice Ao33 t491.length co33] 34 (0, 0)) (Z11 BK495) hb); have NB500_518 := Z ((Z50 : gb500 ≠ gb518)); have NB518_500 := Z ((Z51 : gb518 ≠ gb500)); replace BK500 := Z (blk_below (g := gb500) (o := .cells #[.slice Ao39 t496.length co39] 34 (0, 0)) (Z11 BK500) hb); clear hb hbox hg; obtain ⟨Ao120, co120, eo120⟩ := Kd.R_slice HO516.out; subst eo120; have hnb121 := NB518_490.out; have hnc121 := NB490_518.out; have hnb122 := NB518_495.out; have hnc122 := NB495_518.out; have hnb123 := NB518_500.out; have hnc123 := NB500_518.out; have hcz124_0 : w119.cell? ⟨gb518, 0, none⟩ = some (.slice none 0 0) := (blk_cell BK518.out 0).trans rfl; have hfz124_0 := blk_frozen BK518.out 0) | ((with_reducible refine gate_callee (f := 41) rfl ?_); refine goesL_ (some 107) rfl rfl Try.func41 Z9 rfl #[.agg #[.slice Ao120 t514.length co120], .int .i64 0] rfl Z12 ?_; (with_reducible refine (impl_BlockOf.calls _ _ t514 0 t519 true _ ?side1 ?side2 A107.out).mono ?_); (case side1 => exact (by refine (Kd.R_reads' (e := 47) (base := w.heap.size) (ok := fun k_ => ((((True ∧ some k_ ≠ (.slice Ao30 t487.length co30 : Value).ownBlock) ∧ some k_ ≠ (.slice Ao28 t483.length co28 : Value).ownBlock) ∧ some k_ ≠ (.slice Ao33 t491.length co33 : Value).ownBlock) ∧ some k_ ≠ (.slice Ao39 t496.length co39 : Value).ownBlock)) (n := t514.length) (c := co120) ?_).2.2; exact (by (with_reducible repeat (first | apply Kd.R_alloc | apply Kd.R_drewN | apply Kd.R_drew)); exact (Kd.R_mono (Kd.R_far (p := ⟨gb518, 0, none⟩) (Kd.R_types HO516.out BK518.out (by decide)) (fun _ hk => hk.2) (.slice Ao120 t514.length co120)) (fun _ h_ => h_.1))))); (case side2 => exact (Kd.R_reads' HO516.out).2.1); rintro e w125 ⟨v520, rfl, ho0, hb⟩; refine ⟨_, rfl, ?_⟩; have HO521 := Z (Kd.R_lower (Kd.R_new' (Kd.R_new' (Kd.R_new' (Kd.R_new' (Kd.R_new' ho0 (Kd.R_lt (by (with_reducible repeat (first | apply Kd.R_alloc | apply Kd.R_drewN | apply Kd.R_drew)); exact (Kd.R_mono (Kd.R_far (p := ⟨gb518, 0, none⟩) (Kd.R_types HO_5.out BK518.out (by decide)) (fun _ hk => hk.2) (.slice Ao120 t514.length co120)) (fun _ h_ => h_.1))))) (Kd.R_lt (by (with_reducible repeat (first | apply Kd.R_alloc | apply Kd.R_drewN | apply Kd.R_drew)); exact (Kd.R_mono (Kd.R_far (p := ⟨gb518, 0, none⟩) (Kd.R_types HO_491000.out BK518.out (by decide)) (fun _ hk => hk.2) (.slice Ao120 t514.length co120)) (fun _ h_ => h_.1))))) (Kd.R_lt (by (with_reducible repeat (first | apply Kd.R_alloc | apply Kd.R_drewN | apply Kd.R_drew)); exact (Kd.R_mono (Kd.R_far (p := ⟨gb518, 0, none⟩) (Kd.R_types HO_496000.out BK518.out (by decide)) (fun _ hk => hk.2) (.slice Ao120 t514.length co120)) (fun _ h_ => h_.1))))) (Kd.R_lt (by (with_reducible repeat (first | apply Kd.R_alloc | apply Kd.R_drewN | apply Kd.R_drew)); exact (Kd.R_mono (Kd.R_far (p := ⟨gb518, 0, none⟩) (Kd.R_types HO_501000.out BK518.out (by decide)) (fun _ hk => hk.2) (.slice Ao120 t514.length co120)) (fun _ h_ => h_.1))))) (Kd.R_lt (by (with_reducible repeat (first | apply Kd.R_alloc | apply Kd.R_drewN | apply Kd.R_drew)); exact (Kd.R_mono (Kd.R_far (p := ⟨gb518, 0, none⟩) (Kd.R_types HO516.out BK518.out (by decide)) (fun _ hk => hk.2) (.slice Ao120 t514.length co120)) (fun _ h_ => h_.1))))) (below_size Z33)); replace HO_5 := Z (Kd.R_elder' (by (with_reducible repeat (first | apply Kd.R_alloc | apply Kd.R_drewN | apply Kd.R_drew)); exact (Kd.R_mono (Kd.R_far (p := ⟨gb518, 0, none⟩) (Kd.R_types HO_5.out BK518.out (by decide)) (fun _ hk => hk.2) (.slice Ao120 t514.length co120)) (fun _ h_ => h_.1))) (Kd.R_base ho0) hb); replace HO_491000 := Z (Kd.R_elder' (by (with_reducible repeat (first | apply Kd.R_alloc | apply Kd.R_drewN | apply Kd.R_drew)); exact (Kd.R_mono (Kd.R_far (p := ⟨gb518, 0, none⟩) (Kd.R_types HO_491000.out BK518.out (by decide)) (fun _ hk => hk.2) (.slice Ao120 t514.length co120)) (fun _ h_ => h_.1))) (Kd.R_base ho0) hb); replace HO_496000 := Z (Kd.R_elder' (by (with_reducible repeat (first | apply Kd.R_alloc | apply Kd.R_drewN | apply Kd.R_drew)); exact (Kd.R_mono (Kd.R_far (p := ⟨gb518, 0, none⟩) (Kd.R_types HO_496000.out BK518.out (by decide)) (fun _ hk => hk.2) (.slice Ao120 t514.length co120)) (fun _ h_ => h_.1))) (Kd.R_base ho0) hb); replace HO_501000 := Z (Kd.R_elder' (by (with_reducible repeat (first | apply Kd.R_alloc | apply Kd.R_drewN | apply Kd.R_drew)); exact (Kd.R_mono (Kd.R_far (p := ⟨gb518, 0, none⟩) (Kd.R_types HO_501000.out BK518.out (by decide)) (fun _ hk => hk.2) (.slice Ao120 t514.length co120)) (fun _ h_ => h_.1))) (Kd.R_base ho0) hb); replace HO516 := Z (Kd.R_elder' (by (with_reducible repeat (first | apply Kd.R_alloc | apply Kd.R_drewN | apply Kd.R_drew)); exact (Kd.R_mono (Kd.R_far (p := ⟨gb518, 0, none⟩) (Kd.R_types HO516.out BK518.out (by decide)) (fun _ hk => hk.2) (.slice Ao120 t514.length co120)) (fun _ h_ => h_.1))) (Kd.R_base ho0) hb); replace BK490 := Z (blk_below (g := gb490) (o := .cells #[.slice Ao28 t483.length co28] 34 (0, 0)) (Z30 BK490) hb); replace BK495 := Z (blk_below (g := gb495) (o := .cells #[.slice Ao33 t491.length co33] 34 (0, 0)) (Z31 BK495) hb); replace BK500 := Z (blk_below (g := gb500) (o := .cells #[.slice Ao39 t496.length co39] 34 (0, 0)) (Z32 BK500) hb); replace BK518 := Z (blk_below (g := gb518) (o := .cells #[.slice Ao120 t514.length co120] 34 (0, 0)) (Z14 BK518) hb); replace HB := Z (below_step Z33 hb); (try clear hb); (try clear hb2); (try clear hk); (try clear hi); (try clear ho0)) | (go_at_call 19; (with_reducible refine (laws_padded.calls k1 _ _ t487 t523 _ ?side1 ?side2 A110.out).mono ?_); (case side1 => exact (Z13 HO_5)); (case side2 => exact (Kd.R_reads' HO_5.out).2.1); rintro e w126 ⟨v524, rfl, ho0, hb⟩; have HO525 := Z (Kd.R_lower (Kd.R_new' (Kd.R_new' (Kd.R_new' (Kd.R_new' (Kd.R_new' (Kd.R_new' ho0 (Kd.R_lt (Z7 HO_5))) (Kd.R_lt (Z7 HO_491000))) (Kd.R_lt (Z7 HO_496000))) (Kd.R_lt (Z7 HO_501000))) (Kd.R_lt (Z7 HO516))) (Kd.R_lt (Z7 HO521))) (below_size Z33)); replace HO_5 := Z (Kd.R_elder' (Z7 HO_5) (Kd.R_base ho0) hb); replace HO_491000 := Z (Kd.R_elder' (Z7 HO_491000) (Kd.R_base ho0) hb); replace HO_496000 := Z (Kd.R_elder' (Z7 HO_496000) (Kd.R_base ho0) hb); replace HO_501000 := Z (Kd.R_elder' (Z7 HO_501000) (Kd.R_base ho0) hb); replace HO516 := Z (Kd.R_elder' (Z7 HO516) (Kd.R_base ho0) hb); replace HO521 := Z (Kd.R_elder' (Z7 HO521) (Kd.R_base ho0) hb); replace BK490 := Z (blk_below (g := gb490) (o := .cells #[.slice Ao28 t483.length co28] 34 (0, 0)) (Z11 BK490) hb); replace BK495 := Z (blk_below (g := gb495) (o := .cells #[.slice Ao33 t491.length co33] 34 (0, 0)) (Z11 BK495) hb); replace BK500 := Z (blk_below (g := gb500) (o := .cells #[.slice Ao39 t496.length co39] 34 (0, 0)) (Z11 BK500) hb); replace BK518 := Z (blk_below (g := gb518) (o := .cells #[.slice Ao120 t514.length co120] 34 (0, 0)) (Z11 BK518) hb); replace HB := Z (below_step Z33 hb); (try clear hb); (try clear hb2); (try clear hk); (try clear hi); (try clear ho0); obtain ⟨Ao127, co127, eo127⟩ := Kd.R_slice HO521.out; subst eo127; obtain ⟨Ao128, co128, eo128⟩ := Kd.R_slice HO525.out; subst eo128) | (go_at_call 18; (with_reducible refine (laws_sameCells.calls k1 _ _ t519 _ _ t523 true _ ?side1 ?side2 ?side3 ?side4 A111.out).mono ?_); (case side1 => exact (Z13 HO521)); (case side2 => exact (Kd.R_reads' HO521.out).2.1); (case side3 => exact (Z13 HO525)); (case side4 => exact (Kd.R_reads' HO525.out).2.1); rintro e w' ⟨rfl, ⟨nd, rfl⟩⟩; have hcz129_0 : w126.cell? ⟨gb495, 0, none⟩ = some (.slice Ao33 t491.length co33) := (blk_cell BK495.out 0).trans rfl; have hfz129_0 := blk_frozen BK495.out 0; have hcz130_0 : w126.cell? ⟨gb490, 0, none⟩ = some (.slice Ao28 t483.length co28) := (blk_cell BK490.out 0).trans rfl; have hfz130_0 := blk_frozen BK490.out 0))
          go_ret
          exact ⟨Z8, Z33⟩
         ·replace c112 := Bool.eq_false_iff.mpr c112
          subst c112
          have H1 : (some false) = some r := by rw [if_neg (show ¬ (false = true) by decide)] at H; exact H
          clear H
          have H := H1
          clear H1
          obtain rfl := Option.some.inj H
          have hnb131 := NB490_495.out
          have hnc131 := NB495_490.out
          have hnb132 := NB490_500.out
          have hnc132 := NB500_490.out
          have hcz133_0 : wr.cell? ⟨gb490, 0, none⟩ = some (.slice Ao28 t483.length co28) := (blk_cell BK490.out 0).trans rfl
          have hfz133_0 := blk_frozen BK490.out 0
          have hnb134 := NB495_500.out
          have hnc134 := NB500_495.out
          have hcz135_0 : wr.cell? ⟨gb495, 0, none⟩ = some (.slice Ao33 t491.length co33) := (blk_cell BK495.out 0).trans rfl
          have hfz135_0 := blk_frozen BK495.out 0
          go_wp2_with (first | ((with_reducible refine gate_callee (f := 32) rfl ?_); refine goesL_ (some 102) rfl rfl Try.func32 Z9 rfl #[.agg #[.slice Ao33 t491.length co33], .int .i64 t486, .int .i64 0] rfl Z12 ?_; (with_reducible refine (impl_CopyBlock.calls _ _ t491 t486 0 t514 true _ ?side1 ?side2 A106.out).mono ?_); (case side1 => exact (Z13 HO_496000)); (case side2 => exact (Kd.R_reads' HO_496000.out).2.1); rintro e w136 ⟨v515, rfl, ho0, hb⟩; refine ⟨_, rfl, ?_⟩; have HO516 := Z (Kd.R_lower (Kd.R_new' (Kd.R_new' (Kd.R_new' (Kd.R_new' ho0 (Kd.R_lt (Z7 HO_5))) (Kd.R_lt (Z7 HO_491000))) (Kd.R_lt (Z7 HO_496000))) (Kd.R_lt (Z7 HO_501000))) (below_size Z33)); replace HO_5 := Z (Kd.R_elder' (Z7 HO_5) (Kd.R_base ho0) hb); replace HO_491000 := Z (Kd.R_elder' (Z7 HO_491000) (Kd.R_base ho0) hb); replace HO_496000 := Z (Kd.R_elder' (Z7 HO_496000) (Kd.R_base ho0) hb); replace HO_501000 := Z (Kd.R_elder' (Z7 HO_501000) (Kd.R_base ho0) hb); replace BK490 := Z (blk_below (g := gb490) (o := .cells #[.slice Ao28 t483.length co28] 34 (0, 0)) (Z11 BK490) hb); replace BK495 := Z (blk_below (g := gb495) (o := .cells #[.slice Ao33 t491.length co33] 34 (0, 0)) (Z11 BK495) hb); replace BK500 := Z (blk_below (g := gb500) (o := .cells #[.slice Ao39 t496.length co39] 34 (0, 0)) (Z11 BK500) hb); replace HB := Z (below_step Z33 hb); (try clear hb); (try clear hb2); (try clear hk); (try clear hi); (try clear ho0)) | ((with_reducible refine gate_dst (N := 15) rfl ?_); (try (refine gate_guard (by rfl) ?_; dsimp only)); refine box_event (by rfl) (N := 15) (by rfl) (cs := #[.slice none 0 0]) (t := 34) Z4 ?_; intro gb518 hg w137 hbox hb; replace HO_5 := Z (Kd.R_below (Z7 HO_5) hb); replace HO_491000 := Z (Kd.R_below (Z7 HO_491000) hb); replace HO_496000 := Z (Kd.R_below (Z7 HO_496000) hb); replace HO_501000 := Z (Kd.R_below (Z7 HO_501000) hb); replace HO516 := Z (Kd.R_below (Z7 HO516) hb); have BK518 := Z (hbox); have GW518 := Z ((Z54 : w.heap.size ≤ gb518)); have GE518 := Z ((Z54 : w.heap.size ≤ gb518)); replace HB := Z (below_step Z33 hb); have NB490_518 := Z ((Z46 : gb490 ≠ gb518)); have NB518_490 := Z ((Z47 : gb518 ≠ gb490)); replace BK490 := Z (blk_below (g := gb490) (o := .cells #[.slice Ao28 t483.length co28] 34 (0, 0)) (Z11 BK490) hb); have NB495_518 := Z ((Z48 : gb495 ≠ gb518)); have NB518_495 := Z ((Z49 : gb518 ≠ gb495)); replace BK495 := Z (blk_below (g := gb495) (o := .cells #[.slice Ao33 t491.length co33] 34 (0, 0)) (Z11 BK495) hb); have NB500_518 := Z ((Z50 : gb500 ≠ gb518)); have NB518_500 := Z ((Z51 : gb518 ≠ gb500)); replace BK500 := Z (blk_below (g := gb500) (o := .cells #[.slice Ao39 t496.length co39] 34 (0, 0)) (Z11 BK500) hb); clear hb hbox hg; obtain ⟨Ao138, co138, eo138⟩ := Kd.R_slice HO516.out; subst eo138; have hnb139 := NB518_490.out; have hnc139 := NB490_518.out; have hnb140 := NB518_495.out; have hnc140 := NB495_518.out; have hnb141 := NB518_500.out; have hnc141 := NB500_518.out; have hcz142_0 : w137.cell? ⟨gb518, 0, none⟩ = some (.slice none 0 0) := (blk_cell BK518.out 0).trans rfl; have hfz142_0 := blk_frozen BK518.out 0) | ((with_reducible refine gate_callee (f := 41) rfl ?_); refine goesL_ (some 107) rfl rfl Try.func41 Z9 rfl #[.agg #[.slice Ao138 t514.length co138], .int .i64 0] rfl Z12 ?_; (with_reducible refine (impl_BlockOf.calls _ _ t514 0 t519 true _ ?side1 ?side2 A107.out).mono ?_); (case side1 => exact (by refine (Kd.R_reads' (e := 47) (base := w.heap.size) (ok := fun k_ => ((((True ∧ some k_ ≠ (.slice Ao30 t487.length co30 : Value).ownBlock) ∧ some k_ ≠ (.slice Ao28 t483.length co28 : Value).ownBlock) ∧ some k_ ≠ (.slice Ao33 t491.length co33 : Value).ownBlock) ∧ some k_ ≠ (.slice Ao39 t496.length co39 : Value).ownBlock)) (n := t514.length) (c := co138) ?_).2.2; exact (by (with_reducible repeat (first | apply Kd.R_alloc | apply Kd.R_drewN | apply Kd.R_drew)); exact (Kd.R_mono (Kd.R_far (p := ⟨gb518, 0, none⟩) (Kd.R_types HO516.out BK518.out (by decide)) (fun _ hk => hk.2) (.slice Ao138 t514.length co138)) (fun _ h_ => h_.1))))); (case side2 => exact (Kd.R_reads' HO516.out).2.1); rintro e w143 ⟨v520, rfl, ho0, hb⟩; refine ⟨_, rfl, ?_⟩; have HO521 := Z (Kd.R_lower (Kd.R_new' (Kd.R_new' (Kd.R_new' (Kd.R_new' (Kd.R_new' ho0 (Kd.R_lt (by (with_reducible repeat (first | apply Kd.R_alloc | apply Kd.R_drewN | apply Kd.R_drew)); exact (Kd.R_mono (Kd.R_far (p := ⟨gb518, 0, none⟩) (Kd.R_types HO_5.out BK518.out (by decide)) (fun _ hk => hk.2) (.slice Ao138 t514.length co138)) (fun _ h_ => h_.1))))) (Kd.R_lt (by (with_reducible repeat (first | apply Kd.R_alloc | apply Kd.R_drewN | apply Kd.R_drew)); exact (Kd.R_mono (Kd.R_far (p := ⟨gb518, 0, none⟩) (Kd.R_types HO_491000.out BK518.out (by decide)) (fun _ hk => hk.2) (.slice Ao138 t514.length co138)) (fun _ h_ => h_.1))))) (Kd.R_lt (by (with_reducible repeat (first | apply Kd.R_alloc | apply Kd.R_drewN | apply Kd.R_drew)); exact (Kd.R_mono (Kd.R_far (p := ⟨gb518, 0, none⟩) (Kd.R_types HO_496000.out BK518.out (by decide)) (fun _ hk => hk.2) (.slice Ao138 t514.length co138)) (fun _ h_ => h_.1))))) (Kd.R_lt (by (with_reducible repeat (first | apply Kd.R_alloc | apply Kd.R_drewN | apply Kd.R_drew)); exact (Kd.R_mono (Kd.R_far (p := ⟨gb518, 0, none⟩) (Kd.R_types HO_501000.out BK518.out (by decide)) (fun _ hk => hk.2) (.slice Ao138 t514.length co138)) (fun _ h_ => h_.1))))) (Kd.R_lt (by (with_reducible repeat (first | apply Kd.R_alloc | apply Kd.R_drewN | apply Kd.R_drew)); exact (Kd.R_mono (Kd.R_far (p := ⟨gb518, 0, none⟩) (Kd.R_types HO516.out BK518.out (by decide)) (fun _ hk => hk.2) (.slice Ao138 t514.length co138)) (fun _ h_ => h_.1))))) (below_size Z33)); replace HO_5 := Z (Kd.R_elder' (by (with_reducible repeat (first | apply Kd.R_alloc | apply Kd.R_drewN | apply Kd.R_drew)); exact (Kd.R_mono (Kd.R_far (p := ⟨gb518, 0, none⟩) (Kd.R_types HO_5.out BK518.out (by decide)) (fun _ hk => hk.2) (.slice Ao138 t514.length co138)) (fun _ h_ => h_.1))) (Kd.R_base ho0) hb); replace HO_491000 := Z (Kd.R_elder' (by (with_reducible repeat (first | apply Kd.R_alloc | apply Kd.R_drewN | apply Kd.R_drew)); exact (Kd.R_mono (Kd.R_far (p := ⟨gb518, 0, none⟩) (Kd.R_types HO_491000.out BK518.out (by decide)) (fun _ hk => hk.2) (.slice Ao138 t514.length co138)) (fun _ h_ => h_.1))) (Kd.R_base ho0) hb); replace HO_496000 := Z (Kd.R_elder' (by (with_reducible repeat (first | apply Kd.R_alloc | apply Kd.R_drewN | apply Kd.R_drew)); exact (Kd.R_mono (Kd.R_far (p := ⟨gb518, 0, none⟩) (Kd.R_types HO_496000.out BK518.out (by decide)) (fun _ hk => hk.2) (.slice Ao138 t514.length co138)) (fun _ h_ => h_.1))) (Kd.R_base ho0) hb); replace HO_501000 := Z (Kd.R_elder' (by (with_reducible repeat (first | apply Kd.R_alloc | apply Kd.R_drewN | apply Kd.R_drew)); exact (Kd.R_mono (Kd.R_far (p := ⟨gb518, 0, none⟩) (Kd.R_types HO_501000.out BK518.out (by decide)) (fun _ hk => hk.2) (.slice Ao138 t514.length co138)) (fun _ h_ => h_.1))) (Kd.R_base ho0) hb); replace HO516 := Z (Kd.R_elder' (by (with_reducible repeat (first | apply Kd.R_alloc | apply Kd.R_drewN | apply Kd.R_drew)); exact (Kd.R_mono (Kd.R_far (p := ⟨gb518, 0, none⟩) (Kd.R_types HO516.out BK518.out (by decide)) (fun _ hk => hk.2) (.slice Ao138 t514.length co138)) (fun _ h_ => h_.1))) (Kd.R_base ho0) hb); replace BK490 := Z (blk_below (g := gb490) (o := .cells #[.slice Ao28 t483.length co28] 34 (0, 0)) (Z30 BK490) hb); replace BK495 := Z (blk_below (g := gb495) (o := .cells #[.slice Ao33 t491.length co33] 34 (0, 0)) (Z31 BK495) hb); replace BK500 := Z (blk_below (g := gb500) (o := .cells #[.slice Ao39 t496.length co39] 34 (0, 0)) (Z32 BK500) hb); replace BK518 := Z (blk_below (g := gb518) (o := .cells #[.slice Ao138 t514.length co138] 34 (0, 0)) (Z14 BK518) hb); replace HB := Z (below_step Z33 hb); (try clear hb); (try clear hb2); (try clear hk); (try clear hi); (try clear ho0)) | (go_at_call 19; (with_reducible refine (laws_padded.calls k1 _ _ t487 t523 _ ?side1 ?side2 A110.out).mono ?_); (case side1 => exact (Z13 HO_5)); (case side2 => exact (Kd.R_reads' HO_5.out).2.1); rintro e w144 ⟨v524, rfl, ho0, hb⟩; have HO525 := Z (Kd.R_lower (Kd.R_new' (Kd.R_new' (Kd.R_new' (Kd.R_new' (Kd.R_new' (Kd.R_new' ho0 (Kd.R_lt (Z7 HO_5))) (Kd.R_lt (Z7 HO_491000))) (Kd.R_lt (Z7 HO_496000))) (Kd.R_lt (Z7 HO_501000))) (Kd.R_lt (Z7 HO516))) (Kd.R_lt (Z7 HO521))) (below_size Z33)); replace HO_5 := Z (Kd.R_elder' (Z7 HO_5) (Kd.R_base ho0) hb); replace HO_491000 := Z (Kd.R_elder' (Z7 HO_491000) (Kd.R_base ho0) hb); replace HO_496000 := Z (Kd.R_elder' (Z7 HO_496000) (Kd.R_base ho0) hb); replace HO_501000 := Z (Kd.R_elder' (Z7 HO_501000) (Kd.R_base ho0) hb); replace HO516 := Z (Kd.R_elder' (Z7 HO516) (Kd.R_base ho0) hb); replace HO521 := Z (Kd.R_elder' (Z7 HO521) (Kd.R_base ho0) hb); replace BK490 := Z (blk_below (g := gb490) (o := .cells #[.slice Ao28 t483.length co28] 34 (0, 0)) (Z11 BK490) hb); replace BK495 := Z (blk_below (g := gb495) (o := .cells #[.slice Ao33 t491.length co33] 34 (0, 0)) (Z11 BK495) hb); replace BK500 := Z (blk_below (g := gb500) (o := .cells #[.slice Ao39 t496.length co39] 34 (0, 0)) (Z11 BK500) hb); replace BK518 := Z (blk_below (g := gb518) (o := .cells #[.slice Ao138 t514.length co138] 34 (0, 0)) (Z11 BK518) hb); replace HB := Z (below_step Z33 hb); (try clear hb); (try clear hb2); (try clear hk); (try clear hi); (try clear ho0); obtain ⟨Ao145, co145, eo145⟩ := Kd.R_slice HO521.out; subst eo145; obtain ⟨Ao146, co146, eo146⟩ := Kd.R_slice HO525.out; subst eo146) | (go_at_call 18; (with_reducible refine (laws_sameCells.calls k1 _ _ t519 _ _ t523 false _ ?side1 ?side2 ?side3 ?side4 A111.out).mono ?_); (case side1 => exact (Z13 HO521)); (case side2 => exact (Kd.R_reads' HO521.out).2.1); (case side3 => exact (Z13 HO525)); (case side4 => exact (Kd.R_reads' HO525.out).2.1); rintro e w' ⟨rfl, ⟨nd, rfl⟩⟩))
          go_ret
          exact ⟨Z8, Z33⟩
        ·replace c109 := Bool.eq_false_iff.mpr c109
         subst c109
         have H1 : (some false) = some r := by rw [if_neg (show ¬ (false = true) by decide)] at H; exact H
         clear H
         have H := H1
         clear H1
         obtain rfl := Option.some.inj H
         have hnb147 := NB490_495.out
         have hnc147 := NB495_490.out
         have hnb148 := NB490_500.out
         have hnc148 := NB500_490.out
         have hcz149_0 : wr.cell? ⟨gb490, 0, none⟩ = some (.slice Ao28 t483.length co28) := (blk_cell BK490.out 0).trans rfl
         have hfz149_0 := blk_frozen BK490.out 0
         have hnb150 := NB495_500.out
         have hnc150 := NB500_495.out
         have hcz151_0 : wr.cell? ⟨gb495, 0, none⟩ = some (.slice Ao33 t491.length co33) := (blk_cell BK495.out 0).trans rfl
         have hfz151_0 := blk_frozen BK495.out 0
         go_wp2_with (first | ((with_reducible refine gate_callee (f := 32) rfl ?_); refine goesL_ (some 102) rfl rfl Try.func32 Z9 rfl #[.agg #[.slice Ao33 t491.length co33], .int .i64 t486, .int .i64 0] rfl Z12 ?_; (with_reducible refine (impl_CopyBlock.calls _ _ t491 t486 0 t514 true _ ?side1 ?side2 A106.out).mono ?_); (case side1 => exact (Z13 HO_496000)); (case side2 => exact (Kd.R_reads' HO_496000.out).2.1); rintro e w152 ⟨v515, rfl, ho0, hb⟩; refine ⟨_, rfl, ?_⟩; have HO516 := Z (Kd.R_lower (Kd.R_new' (Kd.R_new' (Kd.R_new' (Kd.R_new' ho0 (Kd.R_lt (Z7 HO_5))) (Kd.R_lt (Z7 HO_491000))) (Kd.R_lt (Z7 HO_496000))) (Kd.R_lt (Z7 HO_501000))) (below_size Z33)); replace HO_5 := Z (Kd.R_elder' (Z7 HO_5) (Kd.R_base ho0) hb); replace HO_491000 := Z (Kd.R_elder' (Z7 HO_491000) (Kd.R_base ho0) hb); replace HO_496000 := Z (Kd.R_elder' (Z7 HO_496000) (Kd.R_base ho0) hb); replace HO_501000 := Z (Kd.R_elder' (Z7 HO_501000) (Kd.R_base ho0) hb); replace BK490 := Z (blk_below (g := gb490) (o := .cells #[.slice Ao28 t483.length co28] 34 (0, 0)) (Z11 BK490) hb); replace BK495 := Z (blk_below (g := gb495) (o := .cells #[.slice Ao33 t491.length co33] 34 (0, 0)) (Z11 BK495) hb); replace BK500 := Z (blk_below (g := gb500) (o := .cells #[.slice Ao39 t496.length co39] 34 (0, 0)) (Z11 BK500) hb); replace HB := Z (below_step Z33 hb); (try clear hb); (try clear hb2); (try clear hk); (try clear hi); (try clear ho0)) | ((with_reducible refine gate_dst (N := 15) rfl ?_); (try (refine gate_guard (by rfl) ?_; dsimp only)); refine box_event (by rfl) (N := 15) (by rfl) (cs := #[.slice none 0 0]) (t := 34) Z4 ?_; intro gb518 hg w153 hbox hb; replace HO_5 := Z (Kd.R_below (Z7 HO_5) hb); replace HO_491000 := Z (Kd.R_below (Z7 HO_491000) hb); replace HO_496000 := Z (Kd.R_below (Z7 HO_496000) hb); replace HO_501000 := Z (Kd.R_below (Z7 HO_501000) hb); replace HO516 := Z (Kd.R_below (Z7 HO516) hb); have BK518 := Z (hbox); have GW518 := Z ((Z54 : w.heap.size ≤ gb518)); have GE518 := Z ((Z54 : w.heap.size ≤ gb518)); replace HB := Z (below_step Z33 hb); have NB490_518 := Z ((Z46 : gb490 ≠ gb518)); have NB518_490 := Z ((Z47 : gb518 ≠ gb490)); replace BK490 := Z (blk_below (g := gb490) (o := .cells #[.slice Ao28 t483.length co28] 34 (0, 0)) (Z11 BK490) hb); have NB495_518 := Z ((Z48 : gb495 ≠ gb518)); have NB518_495 := Z ((Z49 : gb518 ≠ gb495)); replace BK495 := Z (blk_below (g := gb495) (o := .cells #[.slice Ao33 t491.length co33] 34 (0, 0)) (Z11 BK495) hb); have NB500_518 := Z ((Z50 : gb500 ≠ gb518)); have NB518_500 := Z ((Z51 : gb518 ≠ gb500)); replace BK500 := Z (blk_below (g := gb500) (o := .cells #[.slice Ao39 t496.length co39] 34 (0, 0)) (Z11 BK500) hb); clear hb hbox hg; obtain ⟨Ao154, co154, eo154⟩ := Kd.R_slice HO516.out; subst eo154; have hnb155 := NB518_490.out; have hnc155 := NB490_518.out; have hnb156 := NB518_495.out; have hnc156 := NB495_518.out; have hnb157 := NB518_500.out; have hnc157 := NB500_518.out; have hcz158_0 : w153.cell? ⟨gb518, 0, none⟩ = some (.slice none 0 0) := (blk_cell BK518.out 0).trans rfl; have hfz158_0 := blk_frozen BK518.out 0) | ((with_reducible refine gate_callee (f := 41) rfl ?_); refine goesL_ (some 107) rfl rfl Try.func41 Z9 rfl #[.agg #[.slice Ao154 t514.length co154], .int .i64 0] rfl Z12 ?_; (with_reducible refine (impl_BlockOf.calls _ _ t514 0 t519 false _ ?side1 ?side2 A107.out).mono ?_); (case side1 => exact (by refine (Kd.R_reads' (e := 47) (base := w.heap.size) (ok := fun k_ => ((((True ∧ some k_ ≠ (.slice Ao30 t487.length co30 : Value).ownBlock) ∧ some k_ ≠ (.slice Ao28 t483.length co28 : Value).ownBlock) ∧ some k_ ≠ (.slice Ao33 t491.length co33 : Value).ownBlock) ∧ some k_ ≠ (.slice Ao39 t496.length co39 : Value).ownBlock)) (n := t514.length) (c := co154) ?_).2.2; exact (by (with_reducible repeat (first | apply Kd.R_alloc | apply Kd.R_drewN | apply Kd.R_drew)); exact (Kd.R_mono (Kd.R_far (p := ⟨gb518, 0, none⟩) (Kd.R_types HO516.out BK518.out (by decide)) (fun _ hk => hk.2) (.slice Ao154 t514.length co154)) (fun _ h_ => h_.1))))); (case side2 => exact (Kd.R_reads' HO516.out).2.1); rintro e w159 ⟨v520, rfl, ho0, hb⟩; refine ⟨_, rfl, ?_⟩; have HO521 := Z (Kd.R_lower (Kd.R_new' (Kd.R_new' (Kd.R_new' (Kd.R_new' (Kd.R_new' ho0 (Kd.R_lt (by (with_reducible repeat (first | apply Kd.R_alloc | apply Kd.R_drewN | apply Kd.R_drew)); exact (Kd.R_mono (Kd.R_far (p := ⟨gb518, 0, none⟩) (Kd.R_types HO_5.out BK518.out (by decide)) (fun _ hk => hk.2) (.slice Ao154 t514.length co154)) (fun _ h_ => h_.1))))) (Kd.R_lt (by (with_reducible repeat (first | apply Kd.R_alloc | apply Kd.R_drewN | apply Kd.R_drew)); exact (Kd.R_mono (Kd.R_far (p := ⟨gb518, 0, none⟩) (Kd.R_types HO_491000.out BK518.out (by decide)) (fun _ hk => hk.2) (.slice Ao154 t514.length co154)) (fun _ h_ => h_.1))))) (Kd.R_lt (by (with_reducible repeat (first | apply Kd.R_alloc | apply Kd.R_drewN | apply Kd.R_drew)); exact (Kd.R_mono (Kd.R_far (p := ⟨gb518, 0, none⟩) (Kd.R_types HO_496000.out BK518.out (by decide)) (fun _ hk => hk.2) (.slice Ao154 t514.length co154)) (fun _ h_ => h_.1))))) (Kd.R_lt (by (with_reducible repeat (first | apply Kd.R_alloc | apply Kd.R_drewN | apply Kd.R_drew)); exact (Kd.R_mono (Kd.R_far (p := ⟨gb518, 0, none⟩) (Kd.R_types HO_501000.out BK518.out (by decide)) (fun _ hk => hk.2) (.slice Ao154 t514.length co154)) (fun _ h_ => h_.1))))) (Kd.R_lt (by (with_reducible repeat (first | apply Kd.R_alloc | apply Kd.R_drewN | apply Kd.R_drew)); exact (Kd.R_mono (Kd.R_far (p := ⟨gb518, 0, none⟩) (Kd.R_types HO516.out BK518.out (by decide)) (fun _ hk => hk.2) (.slice Ao154 t514.length co154)) (fun _ h_ => h_.1))))) (below_size Z33)); replace HO_5 := Z (Kd.R_elder' (by (with_reducible repeat (first | apply Kd.R_alloc | apply Kd.R_drewN | apply Kd.R_drew)); exact (Kd.R_mono (Kd.R_far (p := ⟨gb518, 0, none⟩) (Kd.R_types HO_5.out BK518.out (by decide)) (fun _ hk => hk.2) (.slice Ao154 t514.length co154)) (fun _ h_ => h_.1))) (Kd.R_base ho0) hb); replace HO_491000 := Z (Kd.R_elder' (by (with_reducible repeat (first | apply Kd.R_alloc | apply Kd.R_drewN | apply Kd.R_drew)); exact (Kd.R_mono (Kd.R_far (p := ⟨gb518, 0, none⟩) (Kd.R_types HO_491000.out BK518.out (by decide)) (fun _ hk => hk.2) (.slice Ao154 t514.length co154)) (fun _ h_ => h_.1))) (Kd.R_base ho0) hb); replace HO_496000 := Z (Kd.R_elder' (by (with_reducible repeat (first | apply Kd.R_alloc | apply Kd.R_drewN | apply Kd.R_drew)); exact (Kd.R_mono (Kd.R_far (p := ⟨gb518, 0, none⟩) (Kd.R_types HO_496000.out BK518.out (by decide)) (fun _ hk => hk.2) (.slice Ao154 t514.length co154)) (fun _ h_ => h_.1))) (Kd.R_base ho0) hb); replace HO_501000 := Z (Kd.R_elder' (by (with_reducible repeat (first | apply Kd.R_alloc | apply Kd.R_drewN | apply Kd.R_drew)); exact (Kd.R_mono (Kd.R_far (p := ⟨gb518, 0, none⟩) (Kd.R_types HO_501000.out BK518.out (by decide)) (fun _ hk => hk.2) (.slice Ao154 t514.length co154)) (fun _ h_ => h_.1))) (Kd.R_base ho0) hb); replace HO516 := Z (Kd.R_elder' (by (with_reducible repeat (first | apply Kd.R_alloc | apply Kd.R_drewN | apply Kd.R_drew)); exact (Kd.R_mono (Kd.R_far (p := ⟨gb518, 0, none⟩) (Kd.R_types HO516.out BK518.out (by decide)) (fun _ hk => hk.2) (.slice Ao154 t514.length co154)) (fun _ h_ => h_.1))) (Kd.R_base ho0) hb); replace BK490 := Z (blk_below (g := gb490) (o := .cells #[.slice Ao28 t483.length co28] 34 (0, 0)) (Z30 BK490) hb); replace BK495 := Z (blk_below (g := gb495) (o := .cells #[.slice Ao33 t491.length co33] 34 (0, 0)) (Z31 BK495) hb); replace BK500 := Z (blk_below (g := gb500) (o := .cells #[.slice Ao39 t496.length co39] 34 (0, 0)) (Z32 BK500) hb); replace BK518 := Z (blk_below (g := gb518) (o := .cells #[.slice Ao154 t514.length co154] 34 (0, 0)) (Z14 BK518) hb); replace HB := Z (below_step Z33 hb); (try clear hb); (try clear hb2); (try clear hk); (try clear hi); (try clear ho0)))
         go_ret
         exact ⟨Z8, Z33⟩
       ·replace c108 := Bool.eq_false_iff.mpr c108
        subst c108
        have H1 : (some false) = some r := by rw [if_neg (show ¬ (false = true) by decide)] at H; exact H
        clear H
        have H := H1
        clear H1
        obtain rfl := Option.some.inj H
        have hnb160 := NB490_495.out
        have hnc160 := NB495_490.out
        have hnb161 := NB490_500.out
        have hnc161 := NB500_490.out
        have hcz162_0 : wr.cell? ⟨gb490, 0, none⟩ = some (.slice Ao28 t483.length co28) := (blk_cell BK490.out 0).trans rfl
        have hfz162_0 := blk_frozen BK490.out 0
        have hnb163 := NB495_500.out
        have hnc163 := NB500_495.out
        have hcz164_0 : wr.cell? ⟨gb495, 0, none⟩ = some (.slice Ao33 t491.length co33) := (blk_cell BK495.out 0).trans rfl
        have hfz164_0 := blk_frozen BK495.out 0
        go_wp2_with (first | ((with_reducible refine gate_callee (f := 32) rfl ?_); refine goesL_ (some 102) rfl rfl Try.func32 Z9 rfl #[.agg #[.slice Ao33 t491.length co33], .int .i64 t486, .int .i64 0] rfl Z12 ?_; (with_reducible refine (impl_CopyBlock.calls _ _ t491 t486 0 t514 false _ ?side1 ?side2 A106.out).mono ?_); (case side1 => exact (Z13 HO_496000)); (case side2 => exact (Kd.R_reads' HO_496000.out).2.1); rintro e w165 ⟨v515, rfl, ho0, hb⟩; refine ⟨_, rfl, ?_⟩; have HO516 := Z (Kd.R_lower (Kd.R_new' (Kd.R_new' (Kd.R_new' (Kd.R_new' ho0 (Kd.R_lt (Z7 HO_5))) (Kd.R_lt (Z7 HO_491000))) (Kd.R_lt (Z7 HO_496000))) (Kd.R_lt (Z7 HO_501000))) (below_size Z33)); replace HO_5 := Z (Kd.R_elder' (Z7 HO_5) (Kd.R_base ho0) hb); replace HO_491000 := Z (Kd.R_elder' (Z7 HO_491000) (Kd.R_base ho0) hb); replace HO_496000 := Z (Kd.R_elder' (Z7 HO_496000) (Kd.R_base ho0) hb); replace HO_501000 := Z (Kd.R_elder' (Z7 HO_501000) (Kd.R_base ho0) hb); replace BK490 := Z (blk_below (g := gb490) (o := .cells #[.slice Ao28 t483.length co28] 34 (0, 0)) (Z11 BK490) hb); replace BK495 := Z (blk_below (g := gb495) (o := .cells #[.slice Ao33 t491.length co33] 34 (0, 0)) (Z11 BK495) hb); replace BK500 := Z (blk_below (g := gb500) (o := .cells #[.slice Ao39 t496.length co39] 34 (0, 0)) (Z11 BK500) hb); replace HB := Z (below_step Z33 hb); (try clear hb); (try clear hb2); (try clear hk); (try clear hi); (try clear ho0)) | ((with_reducible refine gate_dst (N := 15) rfl ?_); (try (refine gate_guard (by rfl) ?_; dsimp only)); refine box_event (by rfl) (N := 15) (by rfl) (cs := #[.slice none 0 0]) (t := 34) Z4 ?_; intro gb518 hg w166 hbox hb; replace HO_5 := Z (Kd.R_below (Z7 HO_5) hb); replace HO_491000 := Z (Kd.R_below (Z7 HO_491000) hb); replace HO_496000 := Z (Kd.R_below (Z7 HO_496000) hb); replace HO_501000 := Z (Kd.R_below (Z7 HO_501000) hb); replace HO516 := Z (Kd.R_below (Z7 HO516) hb); have BK518 := Z (hbox); have GW518 := Z ((Z54 : w.heap.size ≤ gb518)); have GE518 := Z ((Z54 : w.heap.size ≤ gb518)); replace HB := Z (below_step Z33 hb); have NB490_518 := Z ((Z46 : gb490 ≠ gb518)); have NB518_490 := Z ((Z47 : gb518 ≠ gb490)); replace BK490 := Z (blk_below (g := gb490) (o := .cells #[.slice Ao28 t483.length co28] 34 (0, 0)) (Z11 BK490) hb); have NB495_518 := Z ((Z48 : gb495 ≠ gb518)); have NB518_495 := Z ((Z49 : gb518 ≠ gb495)); replace BK495 := Z (blk_below (g := gb495) (o := .cells #[.slice Ao33 t491.length co33] 34 (0, 0)) (Z11 BK495) hb); have NB500_518 := Z ((Z50 : gb500 ≠ gb518)); have NB518_500 := Z ((Z51 : gb518 ≠ gb500)); replace BK500 := Z (blk_below (g := gb500) (o := .cells #[.slice Ao39 t496.length co39] 34 (0, 0)) (Z11 BK500) hb); clear hb hbox hg; obtain ⟨Ao167, co167, eo167⟩ := Kd.R_slice HO516.out; subst eo167; have hnb168 := NB518_490.out; have hnc168 := NB490_518.out; have hnb169 := NB518_495.out; have hnc169 := NB495_518.out; have hnb170 := NB518_500.out; have hnc170 := NB500_518.out; have hcz171_0 : w166.cell? ⟨gb518, 0, none⟩ = some (.slice none 0 0) := (blk_cell BK518.out 0).trans rfl; have hfz171_0 := blk_frozen BK518.out 0) | ((with_reducible refine gate_callee (f := 41) rfl ?_); refine goesL_ (some 107) rfl rfl Try.func41 Z9 rfl #[.agg #[.slice Ao167 t514.length co167], .int .i64 0] rfl Z12 ?_; (with_reducible refine (impl_BlockOf.calls _ _ t514 0 t519 t522 _ ?side1 ?side2 A107.out).mono ?_); (case side1 => exact (by refine (Kd.R_reads' (e := 47) (base := w.heap.size) (ok := fun k_ => ((((True ∧ some k_ ≠ (.slice Ao30 t487.length co30 : Value).ownBlock) ∧ some k_ ≠ (.slice Ao28 t483.length co28 : Value).ownBlock) ∧ some k_ ≠ (.slice Ao33 t491.length co33 : Value).ownBlock) ∧ some k_ ≠ (.slice Ao39 t496.length co39 : Value).ownBlock)) (n := t514.length) (c := co167) ?_).2.2; exact (by (with_reducible repeat (first | apply Kd.R_alloc | apply Kd.R_drewN | apply Kd.R_drew)); exact (Kd.R_mono (Kd.R_far (p := ⟨gb518, 0, none⟩) (Kd.R_types HO516.out BK518.out (by decide)) (fun _ hk => hk.2) (.slice Ao167 t514.length co167)) (fun _ h_ => h_.1))))); (case side2 => exact (Kd.R_reads' HO516.out).2.1); rintro e w172 ⟨v520, rfl, ho0, hb⟩; refine ⟨_, rfl, ?_⟩; have HO521 := Z (Kd.R_lower (Kd.R_new' (Kd.R_new' (Kd.R_new' (Kd.R_new' (Kd.R_new' ho0 (Kd.R_lt (by (with_reducible repeat (first | apply Kd.R_alloc | apply Kd.R_drewN | apply Kd.R_drew)); exact (Kd.R_mono (Kd.R_far (p := ⟨gb518, 0, none⟩) (Kd.R_types HO_5.out BK518.out (by decide)) (fun _ hk => hk.2) (.slice Ao167 t514.length co167)) (fun _ h_ => h_.1))))) (Kd.R_lt (by (with_reducible repeat (first | apply Kd.R_alloc | apply Kd.R_drewN | apply Kd.R_drew)); exact (Kd.R_mono (Kd.R_far (p := ⟨gb518, 0, none⟩) (Kd.R_types HO_491000.out BK518.out (by decide)) (fun _ hk => hk.2) (.slice Ao167 t514.length co167)) (fun _ h_ => h_.1))))) (Kd.R_lt (by (with_reducible repeat (first | apply Kd.R_alloc | apply Kd.R_drewN | apply Kd.R_drew)); exact (Kd.R_mono (Kd.R_far (p := ⟨gb518, 0, none⟩) (Kd.R_types HO_496000.out BK518.out (by decide)) (fun _ hk => hk.2) (.slice Ao167 t514.length co167)) (fun _ h_ => h_.1))))) (Kd.R_lt (by (with_reducible repeat (first | apply Kd.R_alloc | apply Kd.R_drewN | apply Kd.R_drew)); exact (Kd.R_mono (Kd.R_far (p := ⟨gb518, 0, none⟩) (Kd.R_types HO_501000.out BK518.out (by decide)) (fun _ hk => hk.2) (.slice Ao167 t514.length co167)) (fun _ h_ => h_.1))))) (Kd.R_lt (by (with_reducible repeat (first | apply Kd.R_alloc | apply Kd.R_drewN | apply Kd.R_drew)); exact (Kd.R_mono (Kd.R_far (p := ⟨gb518, 0, none⟩) (Kd.R_types HO516.out BK518.out (by decide)) (fun _ hk => hk.2) (.slice Ao167 t514.length co167)) (fun _ h_ => h_.1))))) (below_size Z33)); replace HO_5 := Z (Kd.R_elder' (by (with_reducible repeat (first | apply Kd.R_alloc | apply Kd.R_drewN | apply Kd.R_drew)); exact (Kd.R_mono (Kd.R_far (p := ⟨gb518, 0, none⟩) (Kd.R_types HO_5.out BK518.out (by decide)) (fun _ hk => hk.2) (.slice Ao167 t514.length co167)) (fun _ h_ => h_.1))) (Kd.R_base ho0) hb); replace HO_491000 := Z (Kd.R_elder' (by (with_reducible repeat (first | apply Kd.R_alloc | apply Kd.R_drewN | apply Kd.R_drew)); exact (Kd.R_mono (Kd.R_far (p := ⟨gb518, 0, none⟩) (Kd.R_types HO_491000.out BK518.out (by decide)) (fun _ hk => hk.2) (.slice Ao167 t514.length co167)) (fun _ h_ => h_.1))) (Kd.R_base ho0) hb); replace HO_496000 := Z (Kd.R_elder' (by (with_reducible repeat (first | apply Kd.R_alloc | apply Kd.R_drewN | apply Kd.R_drew)); exact (Kd.R_mono (Kd.R_far (p := ⟨gb518, 0, none⟩) (Kd.R_types HO_496000.out BK518.out (by decide)) (fun _ hk => hk.2) (.slice Ao167 t514.length co167)) (fun _ h_ => h_.1))) (Kd.R_base ho0) hb); replace HO_501000 := Z (Kd.R_elder' (by (with_reducible repeat (first | apply Kd.R_alloc | apply Kd.R_drewN | apply Kd.R_drew)); exact (Kd.R_mono (Kd.R_far (p := ⟨gb518, 0, none⟩) (Kd.R_types HO_501000.out BK518.out (by decide)) (fun _ hk => hk.2) (.slice Ao167 t514.length co167)) (fun _ h_ => h_.1))) (Kd.R_base ho0) hb); replace HO516 := Z (Kd.R_elder' (by (with_reducible repeat (first | apply Kd.R_alloc | apply Kd.R_drewN | apply Kd.R_drew)); exact (Kd.R_mono (Kd.R_far (p := ⟨gb518, 0, none⟩) (Kd.R_types HO516.out BK518.out (by decide)) (fun _ hk => hk.2) (.slice Ao167 t514.length co167)) (fun _ h_ => h_.1))) (Kd.R_base ho0) hb); replace BK490 := Z (blk_below (g := gb490) (o := .cells #[.slice Ao28 t483.length co28] 34 (0, 0)) (Z30 BK490) hb); replace BK495 := Z (blk_below (g := gb495) (o := .cells #[.slice Ao33 t491.length co33] 34 (0, 0)) (Z31 BK495) hb); replace BK500 := Z (blk_below (g := gb500) (o := .cells #[.slice Ao39 t496.length co39] 34 (0, 0)) (Z32 BK500) hb); replace BK518 := Z (blk_below (g := gb518) (o := .cells #[.slice Ao167 t514.length co167] 34 (0, 0)) (Z14 BK518) hb); replace HB := Z (below_step Z33 hb); (try clear hb); (try clear hb2); (try clear hk); (try clear hi); (try clear ho0)))
        go_ret
        exact ⟨Z8, Z33⟩
   ·replace c25 := Bool.eq_false_iff.mpr c25
    subst c25
    have H1 : (some ((t491.length : Int) == 0)) = some r := by rw [if_neg (show ¬ (false = true) by decide)] at H; exact H
    clear H
    have H := H1
    clear H1
    obtain rfl := Option.some.inj H
    go_enter Try.func7, Try.ntmps7
    go_wp2_with (first | ((with_reducible refine gate_callee (f := 13) rfl ?_); refine goesL_ (some 20) rfl rfl Try.func13 Z9 rfl #[.slice A0 l0.length c0] rfl Z12 ?_; (with_reducible refine (laws_big.calls _ _ l0 false _ ?side1 ?side2 A2.out).mono ?_); (case side1 => exact (Z26 HR0)); (case side2 => exact HC0.out); rintro e w' ⟨rfl, ⟨nd, rfl⟩⟩; refine ⟨_, rfl, ?_⟩) | ((with_reducible refine gate_callee (f := 38) rfl ?_); refine goesL_ (some 23) rfl rfl Try.func38 Z9 rfl #[.slice A0 l0.length c0] rfl Z12 ?_; (with_reducible refine (spec_DrawPutBlock.calls k _ _ l0 t483 t486 t487 _ ?side1 ?side2 A4.out).mono ?_); (case side1 => exact (Z26 HR0)); (case side2 => exact HC0.out); rintro e w173 ⟨v484, v488, rfl, ho0, ho1, hb⟩; refine ⟨_, rfl, ?_⟩; have HO485 := Z (Kd.R_lower ho0 (below_size Z33)); have HO489 := Z (Kd.R_lower ho1 (below_size Z33)); replace HB := Z (below_step Z33 hb); (try clear hb); (try clear hb2); (try clear hk); (try clear hi); (try clear ho0); (try clear ho1)) | ((with_reducible refine gate_dst (N := 3) rfl ?_); (try (refine gate_guard (by rfl) ?_; dsimp only)); refine box_event (by rfl) (N := 3) (by rfl) (cs := #[.slice none 0 0]) (t := 34) Z4 ?_; intro gb490 hg w174 hbox hb; replace HO485 := Z (Kd.R_below (Z7 HO485) hb); replace HO489 := Z (Kd.R_below (Z7 HO489) hb); have BK490 := Z (hbox); have GW490 := Z ((Z54 : w.heap.size ≤ gb490)); have GE490 := Z ((Z54 : w.heap.size ≤ gb490)); replace HB := Z (below_step Z33 hb); clear hb hbox hg; obtain ⟨Ao175, co175, eo175⟩ := Kd.R_slice HO485.out; subst eo175; have hcz176_0 : w174.cell? ⟨gb490, 0, none⟩ = some (.slice none 0 0) := (blk_cell BK490.out 0).trans rfl; have hfz176_0 := blk_frozen BK490.out 0; obtain ⟨Ao177, co177, eo177⟩ := Kd.R_slice HO489.out; subst eo177) | ((with_reducible refine gate_callee (f := 39) rfl ?_); refine goesL_ (some 31) rfl rfl Try.func39 Z9 rfl #[.agg #[.slice Ao175 t483.length co175], .int .i64 t486, .slice Ao177 t487.length co177] rfl Z12 ?_; (with_reducible refine (impl_PutBlock.calls _ _ t483 t486 _ _ t487 t491 false _ ?side1 ?side2 ?side3 ?side4 A5.out).mono ?_); (case side1 => exact (by refine (Kd.R_reads' (e := 47) (base := w.heap.size) (ok := fun k_ => some k_ ≠ (.slice Ao177 t487.length co177 : Value).ownBlock) (n := t483.length) (c := co175) ?_).2.2; exact (by (with_reducible repeat (first | apply Kd.R_alloc | apply Kd.R_drewN | apply Kd.R_drew)); exact (Kd.R_mono (Kd.R_far (p := ⟨gb490, 0, none⟩) (Kd.R_types HO485.out BK490.out (by decide)) (fun _ hk => hk.2) (.slice Ao175 t483.length co175)) (fun _ h_ => h_.1))))); (case side2 => exact (Kd.R_reads' HO485.out).2.1); (case side3 => exact (by refine (Kd.R_reads' (e := 47) (base := w.heap.size) (ok := fun k_ => some k_ ≠ (.slice Ao175 t483.length co175 : Value).ownBlock) (n := t487.length) (c := co177) ?_).2.2; exact (by (with_reducible repeat (first | apply Kd.R_alloc | apply Kd.R_drewN | apply Kd.R_drew)); exact (Kd.R_mono (Kd.R_far (p := ⟨gb490, 0, none⟩) (Kd.R_types HO489.out BK490.out (by decide)) (fun _ hk => hk.2) (.slice Ao175 t483.length co175)) (fun _ h_ => h_.1))))); (case side4 => exact (Kd.R_reads' HO489.out).2.1); rintro e w178 ⟨v492, rfl, ho0, hb⟩; refine ⟨_, rfl, ?_⟩; have HO493 := Z (Kd.R_lower (Kd.R_new' (Kd.R_new' ho0 (Kd.R_lt (by (with_reducible repeat (first | apply Kd.R_alloc | apply Kd.R_drewN | apply Kd.R_drew)); exact (Kd.R_mono (Kd.R_far (p := ⟨gb490, 0, none⟩) (Kd.R_types HO485.out BK490.out (by decide)) (fun _ hk => hk.2) (.slice Ao175 t483.length co175)) (fun _ h_ => h_.1))))) (Kd.R_lt (by (with_reducible repeat (first | apply Kd.R_alloc | apply Kd.R_drewN | apply Kd.R_drew)); exact (Kd.R_mono (Kd.R_far (p := ⟨gb490, 0, none⟩) (Kd.R_types HO489.out BK490.out (by decide)) (fun _ hk => hk.2) (.slice Ao175 t483.length co175)) (fun _ h_ => h_.1))))) (below_size Z33)); replace HO485 := Z (Kd.R_elder' (by (with_reducible repeat (first | apply Kd.R_alloc | apply Kd.R_drewN | apply Kd.R_drew)); exact (Kd.R_mono (Kd.R_far (p := ⟨gb490, 0, none⟩) (Kd.R_types HO485.out BK490.out (by decide)) (fun _ hk => hk.2) (.slice Ao175 t483.length co175)) (fun _ h_ => h_.1))) (Kd.R_base ho0) hb); replace HO489 := Z (Kd.R_elder' (by (with_reducible repeat (first | apply Kd.R_alloc | apply Kd.R_drewN | apply Kd.R_drew)); exact (Kd.R_mono (Kd.R_far (p := ⟨gb490, 0, none⟩) (Kd.R_types HO489.out BK490.out (by decide)) (fun _ hk => hk.2) (.slice Ao175 t483.length co175)) (fun _ h_ => h_.1))) (Kd.R_base ho0) hb); replace BK490 := Z (blk_below (g := gb490) (o := .cells #[.slice Ao175 t483.length co175] 34 (0, 0)) (Z14 BK490) hb); replace HB := Z (below_step Z33 hb); (try clear hb); (try clear hb2); (try clear hk); (try clear hi); (try clear ho0)) | ((with_reducible refine gate_dst (N := 6) rfl ?_); (try (refine gate_guard (by rfl) ?_; dsimp only)); refine box_event (by rfl) (N := 6) (by rfl) (cs := #[.slice none 0 0]) (t := 34) Z4 ?_; intro gb495 hg w179 hbox hb; replace HO485 := Z (Kd.R_below (Z7 HO485) hb); replace HO489 := Z (Kd.R_below (Z7 HO489) hb); replace HO493 := Z (Kd.R_below (Z7 HO493) hb); have BK495 := Z (hbox); have GW495 := Z ((Z54 : w.heap.size ≤ gb495)); have GE495 := Z ((Z54 : w.heap.size ≤ gb495)); replace HB := Z (below_step Z33 hb); have NB490_495 := Z ((Z52 : gb490 ≠ gb495)); have NB495_490 := Z ((Z53 : gb495 ≠ gb490)); replace BK490 := Z (blk_below (g := gb490) (o := .cells #[.slice Ao175 t483.length co175] 34 (0, 0)) (Z11 BK490) hb); clear hb hbox hg; obtain ⟨Ao180, co180, eo180⟩ := Kd.R_slice HO493.out; subst eo180; have hnb181 := NB495_490.out; have hnc181 := NB490_495.out; have hcz182_0 : w179.cell? ⟨gb495, 0, none⟩ = some (.slice none 0 0) := (blk_cell BK495.out 0).trans rfl; have hfz182_0 := blk_frozen BK495.out 0; have hcz183_0 : w179.cell? ⟨gb490, 0, none⟩ = some (.slice Ao175 t483.length co175) := (blk_cell BK490.out 0).trans rfl; have hfz183_0 := blk_frozen BK490.out 0) | ((with_reducible refine gate_callee (f := 40) rfl ?_); refine goesL_ (some 38) rfl rfl Try.func40 Z9 rfl #[.agg #[.slice Ao175 t483.length co175], .int .i64 t486, .slice Ao177 t487.length co177] rfl Z12 ?_; (with_reducible refine (spec_PutBlock.calls k _ _ t483 t486 _ _ t487 t496 t499 _ ?side1 ?side2 ?side3 ?side4 A6.out).mono ?_); (case side1 => exact (by refine (Kd.R_reads' (e := 47) (base := w.heap.size) (ok := fun k_ => (some k_ ≠ (.slice Ao177 t487.length co177 : Value).ownBlock ∧ some k_ ≠ (.slice Ao180 t491.length co180 : Value).ownBlock)) (n := t483.length) (c := co175) ?_).2.2; exact (by (with_reducible repeat (first | apply Kd.R_alloc | apply Kd.R_drewN | apply Kd.R_drew)); exact (Kd.R_mono (Kd.R_far (p := ⟨gb495, 0, none⟩) (Kd.R_types HO485.out BK495.out (by decide)) (fun _ hk => hk.2) (.slice Ao180 t491.length co180)) (fun _ h_ => h_.1))))); (case side2 => exact (Kd.R_reads' HO485.out).2.1); (case side3 => exact (by refine (Kd.R_reads' (e := 47) (base := w.heap.size) (ok := fun k_ => (some k_ ≠ (.slice Ao175 t483.length co175 : Value).ownBlock ∧ some k_ ≠ (.slice Ao180 t491.length co180 : Value).ownBlock)) (n := t487.length) (c := co177) ?_).2.2; exact (by (with_reducible repeat (first | apply Kd.R_alloc | apply Kd.R_drewN | apply Kd.R_drew)); exact (Kd.R_mono (Kd.R_far (p := ⟨gb495, 0, none⟩) (Kd.R_types HO489.out BK495.out (by decide)) (fun _ hk => hk.2) (.slice Ao180 t491.length co180)) (fun _ h_ => h_.1))))); (case side4 => exact (Kd.R_reads' HO489.out).2.1); rintro e w184 ⟨v497, rfl, ho0, hb⟩; refine ⟨_, rfl, ?_⟩; have HO498 := Z (Kd.R_lower (Kd.R_new' (Kd.R_new' (Kd.R_new' ho0 (Kd.R_lt (by (with_reducible repeat (first | apply Kd.R_alloc | apply Kd.R_drewN | apply Kd.R_drew)); exact (Kd.R_mono (Kd.R_far (p := ⟨gb495, 0, none⟩) (Kd.R_types HO485.out BK495.out (by decide)) (fun _ hk => hk.2) (.slice Ao180 t491.length co180)) (fun _ h_ => h_.1))))) (Kd.R_lt (by (with_reducible repeat (first | apply Kd.R_alloc | apply Kd.R_drewN | apply Kd.R_drew)); exact (Kd.R_mono (Kd.R_far (p := ⟨gb495, 0, none⟩) (Kd.R_types HO489.out BK495.out (by decide)) (fun _ hk => hk.2) (.slice Ao180 t491.length co180)) (fun _ h_ => h_.1))))) (Kd.R_lt (by (with_reducible repeat (first | apply Kd.R_alloc | apply Kd.R_drewN | apply Kd.R_drew)); exact (Kd.R_mono (Kd.R_far (p := ⟨gb495, 0, none⟩) (Kd.R_types HO493.out BK495.out (by decide)) (fun _ hk => hk.2) (.slice Ao180 t491.length co180)) (fun _ h_ => h_.1))))) (below_size Z33)); replace HO485 := Z (Kd.R_elder' (by (with_reducible repeat (first | apply Kd.R_alloc | apply Kd.R_drewN | apply Kd.R_drew)); exact (Kd.R_mono (Kd.R_far (p := ⟨gb495, 0, none⟩) (Kd.R_types HO485.out BK495.out (by decide)) (fun _ hk => hk.2) (.slice Ao180 t491.length co180)) (fun _ h_ => h_.1))) (Kd.R_base ho0) hb); replace HO489 := Z (Kd.R_elder' (by (with_reducible repeat (first | apply Kd.R_alloc | apply Kd.R_drewN | apply Kd.R_drew)); exact (Kd.R_mono (Kd.R_far (p := ⟨gb495, 0, none⟩) (Kd.R_types HO489.out BK495.out (by decide)) (fun _ hk => hk.2) (.slice Ao180 t491.length co180)) (fun _ h_ => h_.1))) (Kd.R_base ho0) hb); replace HO493 := Z (Kd.R_elder' (by (with_reducible repeat (first | apply Kd.R_alloc | apply Kd.R_drewN | apply Kd.R_drew)); exact (Kd.R_mono (Kd.R_far (p := ⟨gb495, 0, none⟩) (Kd.R_types HO493.out BK495.out (by decide)) (fun _ hk => hk.2) (.slice Ao180 t491.length co180)) (fun _ h_ => h_.1))) (Kd.R_base ho0) hb); replace BK490 := Z (blk_below (g := gb490) (o := .cells #[.slice Ao175 t483.length co175] 34 (0, 0)) (Z27 BK490) hb); replace BK495 := Z (blk_below (g := gb495) (o := .cells #[.slice Ao180 t491.length co180] 34 (0, 0)) (Z14 BK495) hb); replace HB := Z (below_step Z33 hb); (try clear hb); (try clear hb2); (try clear hk); (try clear hi); (try clear ho0)) | ((with_reducible refine gate_dst (N := 8) rfl ?_); (try (refine gate_guard (by rfl) ?_; dsimp only)); refine box_event (by rfl) (N := 8) (by rfl) (cs := #[.slice none 0 0]) (t := 34) Z4 ?_; intro gb500 hg w185 hbox hb; replace HO485 := Z (Kd.R_below (Z7 HO485) hb); replace HO489 := Z (Kd.R_below (Z7 HO489) hb); replace HO493 := Z (Kd.R_below (Z7 HO493) hb); replace HO498 := Z (Kd.R_below (Z7 HO498) hb); have BK500 := Z (hbox); have GW500 := Z ((Z54 : w.heap.size ≤ gb500)); have GE500 := Z ((Z54 : w.heap.size ≤ gb500)); replace HB := Z (below_step Z33 hb); have NB490_500 := Z ((Z52 : gb490 ≠ gb500)); have NB500_490 := Z ((Z53 : gb500 ≠ gb490)); replace BK490 := Z (blk_below (g := gb490) (o := .cells #[.slice Ao175 t483.length co175] 34 (0, 0)) (Z11 BK490) hb); have NB495_500 := Z ((by rw [hg]; exact Nat.ne_of_lt (blk_lt (g := gb495) (o := .cells #[.slice Ao180 t491.length co180] 34 (0, 0)) (Z11 BK495)) : gb495 ≠ gb500)); have NB500_495 := Z ((by rw [hg]; exact Nat.ne_of_gt (blk_lt (g := gb495) (o := .cells #[.slice Ao180 t491.length co180] 34 (0, 0)) (Z11 BK495)) : gb500 ≠ gb495)); replace BK495 := Z (blk_below (g := gb495) (o := .cells #[.slice Ao180 t491.length co180] 34 (0, 0)) (Z11 BK495) hb); clear hb hbox hg; obtain ⟨Ao186, co186, eo186⟩ := Kd.R_slice HO498.out; subst eo186; have hnb187 := NB500_490.out; have hnc187 := NB490_500.out; have hnb188 := NB500_495.out; have hnc188 := NB495_500.out; have hcz189_0 : w185.cell? ⟨gb500, 0, none⟩ = some (.slice none 0 0) := (blk_cell BK500.out 0).trans rfl; have hfz189_0 := blk_frozen BK500.out 0; have hcz190_0 : w185.cell? ⟨gb495, 0, none⟩ = some (.slice Ao180 t491.length co180) := (blk_cell BK495.out 0).trans rfl; have hfz190_0 := blk_frozen BK495.out 0))
    go_ret
    exact ⟨Z8, Z33⟩

/-- THE ONE PURE STATEMENT of laws_FnBlocks: yours. -/
def laws_FnBlocks.Pure : Prop := ∀ (l0 : List Int), l0.length ≤ maxLen → l0.length * 1 ≤ 140737488351232 → (∀ x ∈ l0, (Lit.int .u8 x).wf = true) → ∃ k, laws_FnBlocks.f k l0 = some true
theorem laws_FnBlocks.walk (P : laws_FnBlocks.Pure) (a0 : Option Addr) (len0 cap0 : Nat) (z0 : List Int) (w : World) (w0 : (a0 = none ∧ len0 = 0 ∧ cap0 = 0 ∧ z0 = []) ∨ ∃ x, a0 = some x ∧ len0 ≤ cap0 ∧ cap0 ≤ maxLen ∧ z0.length = cap0 ∧ (∀ i, i < z0.length → w.cell? (x.add i) = some (.int .u8 (z0.getD i 0))) ∧ ∀ n ∈ z0, (Lit.int .u8 n).wf = true) (y0 : len0 * 1 ≤ 140737488351232) :
  Calls Try.prog 7 #[.slice a0 len0 cap0] w fun e w' => e = .returned (.bool true) ∧ Below w.heap.size w w' := by
 obtain ⟨l0, rfl, hr0, hm0, hw0, hc0⟩ := ReadsInt.ofRowC w0
 obtain ⟨k, h⟩ := P l0 hm0 y0 hw0
 refine (laws_FnBlocks.calls k _ _ l0 true w (Kd.C_of_reads (d := (0 : Int)) (h1 := fun _ => rfl) hr0) hc0 h).mono ?_
 rintro e w' ⟨rfl, hd⟩
 exact ⟨rfl, hd⟩

end Go.Proofs.Ytkkiibjnpkjijaa.QFnBlocks
