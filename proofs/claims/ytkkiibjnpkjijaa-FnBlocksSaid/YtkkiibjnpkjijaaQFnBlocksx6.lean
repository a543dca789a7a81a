/-
Plain functions for the Go functions that a law reaches, each with a proof that the translation's call comes to just that; no conditions beyond those written in each.
-/
import Derived.Test.YtkkiibjnpkjijaaSFnBlocks
import Derived.Test.YtkkiibjnpkjijaaQFnBlocksx2
import Derived.Test.YtkkiibjnpkjijaaQFnBlocksx5
namespace Go.Proofs.Ytkkiibjnpkjijaa.QFnBlocks
open Go.RowKit Go.Proofs.YtkkiibjnpkjijaaW.PrintWords Go.Proofs.YtkkiibjnpkjijaaW.PrintLast Go.Proofs.YtkkiibjnpkjijaaW.PrintMore
attribute [local go_sem] max2_int min2_int max_two min_two max_three min_three max_four min_four   -- for this text's walks alone
set_option linter.unusedVariables false
set_option linter.unusedSimpArgs false

/-! ### spec_l05Make: function 98 -/
mutual
def spec_l05Make.l0 : Nat → Int → List Int → Int → Int → List Int → Option (List Int × Int × Int)
 | 0, _, _, _, _, _ => none
 | k + 1, x4, x1000, x1001, x1002, x422000 => if x4 < (wrap64 ((x422000.length : Int) / 64)) then ((spec_l04Cells.f k x1000 x1001 x1002).bind fun bt422 => (spec_l05Make.l1 k x4 bt422.1 0 x1000 bt422.2.1 bt422.2.2 x422000)) else (some (x422000, x1001, x1002))
def spec_l05Make.l1 : Nat → Int → List Int → Int → List Int → Int → Int → List Int → Option (List Int × Int × Int)
 | 0, _, _, _, _, _, _, _ => none
 | k + 1, x4, x5, x6, x1000, x1001, x1002, x422000 => if x6 < (x5.length : Int) then (if x6 < 64 then (if 0 ≤ x6 then (if 0 ≤ (wrap64 ((wrap64 (x4 * 64)) + x6)) then (if (wrap64 ((wrap64 (x4 * 64)) + x6)) < (x422000.length : Int) then (spec_l05Make.l1 k x4 x5 (wrap64 (x6 + 1)) x1000 x1001 x1002 (x422000.set ((wrap64 ((wrap64 (x4 * 64)) + x6)) : Int).toNat (rd x5 x6))) else (none)) else (none)) else (none)) else (spec_l05Make.l0 k (wrap64 (x4 + 1)) x1000 x1001 x1002 x422000)) else (spec_l05Make.l0 k (wrap64 (x4 + 1)) x1000 x1001 x1002 x422000)
end
def spec_l05Make.f (k : Nat) (s0_0 : List Int) (s0_1 : Int) (s0_2 : Int) : Option (List Int × Int × Int) := (spec_l01Below.f s0_0 s0_1 s0_2 3).bind fun bt415 => ((spec_NewStore.f (wrap64 (1 + bt415.1))).bind fun t418 => (spec_l05Make.l0 k 0 s0_0 bt415.2.1 bt415.2.2 t418))
theorem spec_l05Make.mono_l : ∀ k, (∀ y0 y1 y2 y3 y4, LeO (spec_l05Make.l0 k y0 y1 y2 y3 y4) (spec_l05Make.l0 (k + 1) y0 y1 y2 y3 y4)) ∧ (∀ y0 y1 y2 y3 y4 y5 y6, LeO (spec_l05Make.l1 k y0 y1 y2 y3 y4 y5 y6) (spec_l05Make.l1 (k + 1) y0 y1 y2 y3 y4 y5 y6))
 | 0 => ⟨fun _ _ _ _ _ r h => by simp [spec_l05Make.l0] at h, fun _ _ _ _ _ _ _ r h => by simp [spec_l05Make.l1] at h⟩
 | k + 1 => by
  obtain ⟨ih0, ih1⟩ := spec_l05Make.mono_l k
  refine ⟨?_, ?_⟩
  ·intro y0 y1 y2 y3 y4
   unfold spec_l05Make.l0
   repeat' first
   | (with_reducible exact ih0 _ _ _ _ _)
   | (with_reducible exact ih1 _ _ _ _ _ _ _)
   | (with_reducible exact spec_l04Cells.mono _ _ _ _)
   | (with_reducible exact LeO.refl _)
   | (with_reducible exact LeO.none _)
   | (with_reducible refine LeO.ite ?_ ?_)
   | (with_reducible refine LeO.bind ?_ (fun _ => ?_))
   | exact ih0 _ _ _ _ _
   | exact ih1 _ _ _ _ _ _ _
   | exact spec_l04Cells.mono _ _ _ _
   | exact LeO.none _
   | refine LeO.ite ?_ ?_
   | refine LeO.bind ?_ (fun _ => ?_)
  ·intro y0 y1 y2 y3 y4 y5 y6
   unfold spec_l05Make.l1
   repeat' first
   | (with_reducible exact ih0 _ _ _ _ _)
   | (with_reducible exact ih1 _ _ _ _ _ _ _)
   | (with_reducible exact spec_l04Cells.mono _ _ _ _)
   | (with_reducible exact LeO.refl _)
   | (with_reducible exact LeO.none _)
   | (with_reducible refine LeO.ite ?_ ?_)
   | (with_reducible refine LeO.bind ?_ (fun _ => ?_))
   | exact ih0 _ _ _ _ _
   | exact ih1 _ _ _ _ _ _ _
   | exact spec_l04Cells.mono _ _ _ _
   | exact LeO.none _
   | refine LeO.ite ?_ ?_
   | refine LeO.bind ?_ (fun _ => ?_)
theorem spec_l05Make.mono : ∀ a0 a1 a2 k, LeO (spec_l05Make.f k a0 a1 a2) (spec_l05Make.f (k + 1) a0 a1 a2) := by
 intro a0 a1 a2 k
 obtain ⟨ih0, ih1⟩ := spec_l05Make.mono_l k
 unfold spec_l05Make.f
 repeat' first
   | (with_reducible exact ih0 _ _ _ _ _)
   | (with_reducible exact ih1 _ _ _ _ _ _ _)
   | (with_reducible exact spec_l04Cells.mono _ _ _ _)
   | (with_reducible exact LeO.refl _)
   | (with_reducible exact LeO.none _)
   | (with_reducible refine LeO.ite ?_ ?_)
   | (with_reducible refine LeO.bind ?_ (fun _ => ?_))
   | exact ih0 _ _ _ _ _
   | exact ih1 _ _ _ _ _ _ _
   | exact spec_l04Cells.mono _ _ _ _
   | exact LeO.none _
   | refine LeO.ite ?_ ?_
   | refine LeO.bind ?_ (fun _ => ?_)
def spec_l05Make.T9 : Bool × List (List Nat × List Nat) := (true, [([], []), ([0], [0]), ([], []), ([2], [2]), ([], []), ([3, 4], [3, 4]), ([], []), ([], []), ([6, 7], [6, 7]), ([8], [8]), ([1, 5, 0, 1, 2, 3, 4, 5, 6, 7, 8, 9], [1, 5]), ([10, 9, 0, 1, 2, 3, 4, 5, 6, 7, 8, 9], [9, 10])])
def spec_l05Make.B9 : List Nat := [0, 1, 0, 4, 0, 28, 0, 0, 192, 448, 1023, 2047]
theorem spec_l05Make.tab9 : rtab .any (opsOf Try.f98 9) = spec_l05Make.T9 := Z9
theorem spec_l05Make.bits9 : waitsOk spec_l05Make.T9.2 spec_l05Make.B9 = true := Z9
set_option maxHeartbeats 8000000 in
set_option maxRecDepth 100000 in
theorem spec_l05Make.calls (k : Nat) (g : Nat) (s0_0 : List Int) (s0_1 : Int) (s0_2 : Int) (r1 : List Int) (r2 : Int) (r3 : Int) (w0 w : World) (hI : IsS97 w0 w g s0_0 s0_1 s0_2) (hB : Below w0.heap.size w0 w) (h : spec_l05Make.f k s0_0 s0_1 s0_2 = some (r1, r2, r3)) :
  Calls Try.prog 98 #[.pointer (some ⟨g, 0, none⟩)] w fun e w' => ∃ v0_ : Value, e = .returned (.agg #[v0_]) ∧ Kd.R (Kd.int .u32) 47 w' w.heap.size (fun _ => True) v0_ r1 ∧ IsS97 w0 w' g s0_0 r2 r3 ∧ Below w0.heap.size w0 w' ∧ KeepBut w w' g none := by
 have hu34 := Try.underlying34
 have HI0 := Aside0.mk hI
 have HK := Z (KeepBut.refl w g none)
 have HL := Aside0.mk hB.size
 clear hI
 have HW0 := Aside0.mk hB.size
 have HB := Aside0.mk hB
 clear hB
 have H : ((spec_l01Below.f s0_0 s0_1 s0_2 3).bind fun bt415 => ((spec_NewStore.f (wrap64 (1 + bt415.1))).bind fun t418 => (spec_l05Make.l0 k 0 s0_0 bt415.2.1 bt415.2.2 t418))) = some (r1, r2, r3) := h
 clear h
 replace H := Option.bind_eq_some_iff.mp H
 obtain ⟨⟨t415, t416, t417⟩, A20, H⟩ := H
 replace H : ((spec_NewStore.f (wrap64 (1 + t415))).bind fun t418 => (spec_l05Make.l0 k 0 s0_0 t416 t417 t418)) = some (r1, r2, r3) := H
 have A2 := Aside0.mk A20
 clear A20
 replace H := Option.bind_eq_some_iff.mp H
 obtain ⟨t418, A30, H⟩ := H
 replace H : (spec_l05Make.l0 k 0 s0_0 t416 t417 t418) = some (r1, r2, r3) := H
 have A3 := Aside0.mk A30
 clear A30
 have H' := Aside0.mk H
 clear H
 go_enter Try.func98, Try.ntmps98
 go_wp2_with (first | ((with_reducible refine gate_dst (N := 2) rfl ?_); refine box_event (by rfl) (N := 2) (by rfl) (cs := #[.slice none 0 0]) (t := 34) Z4 ?_; intro gb414 hg w4 hbox hb; replace HB := Z (below_step Z40 hb); have BK414 := Z (hbox); have GW414 := Z ((Z56 : w.heap.size ≤ gb414)); have GE414 := Z ((Nat.le_trans HW0.out (Z56 : w.heap.size ≤ gb414) : w0.heap.size ≤ gb414)); replace HK := Z (KeepBut.trans Z41 (KeepBut.of_below hb g none) (.inl rfl)); have NB0_414 := Z ((Z57 : g ≠ gb414)); have NB414_0 := Z ((Z58 : gb414 ≠ g)); replace HI0 := Z (IsS97.below Z39 hb); clear hb hbox hg) | ((with_reducible refine gate_callee (f := 73) rfl ?_); refine goesL_ (some 8) rfl rfl Try.func73 Z9 rfl #[.pointer (some ⟨g, 0, none⟩), .int .i64 3] rfl Z12 ?_; (with_reducible refine (spec_l01Below.calls g s0_0 s0_1 s0_2 3 t415 t416 t417 w0 _ ?side1 ?side2 A2.out).mono ?_); (case side1 => exact Z39); (case side2 => exact Z40); rintro e w5 ⟨rfl, hi, hb, hk⟩; refine ⟨_, rfl, ?_⟩; replace BK414 := Z (KeepBut.blk hk (g' := gb414) (o := .cells #[.slice none 0 0] 34 (0, 0)) (Z11 BK414) NB414_0.out (by simp)); replace HK := Z (KeepBut.trans Z41 hk (.inl rfl)); replace HB := Z (hb); replace HI0 := Z (hi); (try clear hb); (try clear hb2); (try clear hk); (try clear hi)) | ((with_reducible refine gate_callee (f := 119) rfl ?_); refine goesL_ (some 10) rfl rfl Try.func119 Z9 rfl #[.int .i64 (wrap64 (1 + t415))] rfl Z12 ?_; (with_reducible refine (spec_NewStore.calls (wrap64 (1 + t415)) t418 _ A3.out).mono ?_); rintro e w6 ⟨v419, rfl, ho0, hb⟩; refine ⟨_, rfl, ?_⟩; have HO420 := Z (Kd.R_lower ho0 (keep_size (w := w) (g := g) (row := none) Z41)); replace BK414 := Z (blk_below (g := gb414) (o := .cells #[.slice none 0 0] 34 (0, 0)) (Z11 BK414) hb); replace HK := Z (KeepBut.trans Z41 (KeepBut.of_below hb g none) (.inl rfl)); replace HB := Z (below_step Z40 hb); replace HI0 := Z (IsS97.below Z39 hb); (try clear hb); (try clear hb2); (try clear hk); (try clear hi); (try clear ho0)) | ((with_reducible refine gate_dst (N := 3) rfl ?_); refine box_event (by rfl) (N := 3) (by rfl) (cs := #[.slice none 0 0]) (t := 34) Z4 ?_; intro gb421 hg w7 hbox hb; replace HO420 := Z (Kd.R_below (Z7 HO420) hb); replace HB := Z (below_step Z40 hb); have BK421 := Z (hbox); have GW421 := Z ((Z56 : w.heap.size ≤ gb421)); have GE421 := Z ((Nat.le_trans HW0.out (Z56 : w.heap.size ≤ gb421) : w0.heap.size ≤ gb421)); replace HK := Z (KeepBut.trans Z41 (KeepBut.of_below hb g none) (.inl rfl)); have NB414_421 := Z ((by rw [hg]; exact Nat.ne_of_lt (blk_lt (g := gb414) (o := .cells #[.slice none 0 0] 34 (0, 0)) (Z11 BK414)) : gb414 ≠ gb421)); have NB421_414 := Z ((by rw [hg]; exact Nat.ne_of_gt (blk_lt (g := gb414) (o := .cells #[.slice none 0 0] 34 (0, 0)) (Z11 BK414)) : gb421 ≠ gb414)); replace BK414 := Z (blk_below (g := gb414) (o := .cells #[.slice none 0 0] 34 (0, 0)) (Z11 BK414) hb); have NB0_421 := Z ((by rw [hg]; exact Nat.ne_of_lt (IsS97.lt (show IsS97 w0 _ g s0_0 t416 t417 from Z39)) : g ≠ gb421)); have NB421_0 := Z ((by rw [hg]; exact Nat.ne_of_gt (IsS97.lt (show IsS97 w0 _ g s0_0 t416 t417 from Z39)) : gb421 ≠ g)); replace HI0 := Z (IsS97.below Z39 hb); clear hb hbox hg; obtain ⟨Ao8, co8, eo8⟩ := Kd.R_slice HO420.out; subst eo8; have hnb9 := NB421_414.out; have hnc9 := NB414_421.out; have hnb10 := NB421_0.out; have hnc10 := NB0_421.out; have hcz11_0 : w7.cell? ⟨gb421, 0, none⟩ = some (.slice none 0 0) := (blk_cell BK421.out 0).trans rfl; have hfz11_0 := blk_frozen BK421.out 0))
 go_loopg [4] k (fun kq v4 w' => ∃ (x4_1 : Int) (x1001_1 : Int) (x1002_1 : Int) (x422000_1 : List Int) (u422000 : Value), v4 = .int .i64 x4_1 ∧ Aside0 (spec_l05Make.l0 kq x4_1 s0_0 x1001_1 x1002_1 x422000_1 = some (r1, r2, r3)) ∧ Aside0 (kq ≤ k) ∧ Aside0 (Kd.R (Kd.int .u32) 47 w' w.heap.size (fun _ => True) u422000 x422000_1) ∧ Aside0 (w'.heap[gb414]? = some (.cells #[(.slice none 0 0)] 34 (0, 0))) ∧ Aside0 (w'.heap[gb421]? = some (.cells #[u422000] 34 (0, 0))) ∧ Aside0 (IsS97 w0 w' g s0_0 x1001_1 x1002_1) ∧ Aside0 (KeepBut w w' g none) ∧ Aside0 (Below w0.heap.size w0 w'))
 case atStart => exact ⟨(0), (t416), (t417), (t418), (.slice Ao8 t418.length co8), Z0, H', ⟨Nat.le_refl _⟩, ⟨by (with_reducible repeat (first | apply Kd.R_alloc | apply Kd.R_drewN | apply Kd.R_drew)); exact Kd.R_mono (Kd.R_far (p := ⟨gb421, 0, none⟩) (Kd.R_types HO420.out BK421.out (by decide)) (fun _ hk => hk.2) (.slice Ao8 t418.length co8)) (fun _ hk => trivial)⟩, ⟨by (with_reducible repeat (first | refine blk_drewN ?_ _ | refine blk_drew ?_ | refine blk_alloc ?_ _)); refine blk_far ?_ NB414_421.out _; (with_reducible repeat (first | refine blk_drewN ?_ _ | refine blk_drew ?_ | refine blk_alloc ?_ _)); exact BK414.out⟩, ⟨(Z14 BK421)⟩, ⟨Z39⟩, ⟨Z41⟩, ⟨Z40⟩⟩
 case round =>
  clear H'
  try clear c1
  try clear p2
  try clear p6
  try clear c7
  try clear c9
  try clear c10
  try clear c11
  try clear hcz11_0
  try clear hfz11_0
  obtain ⟨x4_1, x1001_1, x1002_1, x422000_1, u422000, rfl, HA, HK1, HO_422000, BK414, BK421, HI0, HK, HB⟩ := hrel
  cases gk with
  | zero => exact absurd HA.out (by simp [spec_l05Make.l0])
  | succ k1 =>
   have H := HA.out
   clear HA
   simp only [spec_l05Make.l0] at H
   by_cases c12 : x4_1 < (wrap64 ((x422000_1.length : Int) / 64))
   ·rw [if_pos c12] at H
    have c12b0 : decide (x4_1 < (wrap64 ((x422000_1.length : Int) / 64))) = true := decide_eq_true c12
    clear c12
    replace H := Option.bind_eq_some_iff.mp H
    obtain ⟨⟨t422, t425, t426⟩, A130, H⟩ := H
    replace H : (spec_l05Make.l1 k1 x4_1 t422 0 s0_0 t425 t426 x422000_1) = some (r1, r2, r3) := H
    have A13 := Aside0.mk A130
    clear A130
    have H' := Aside0.mk H
    clear H
    have hnb14 := NB421_414.out
    have hnc14 := NB414_421.out
    have hnb15 := NB421_0.out
    have hnc15 := NB0_421.out
    have hcz16_0 : wr.cell? ⟨gb421, 0, none⟩ = some (u422000) := (blk_cell BK421.out 0).trans rfl
    have hfz16_0 := blk_frozen BK421.out 0
    obtain ⟨Ao17, co17, eo17⟩ := Kd.R_slice HO_422000.out
    subst eo17
    go_wp2_with (first | ((with_reducible refine gate_callee (f := 58) rfl ?_); refine goesL_ (some 20) rfl rfl Try.func58 Z9 rfl #[.pointer (some ⟨g, 0, none⟩)] rfl Z12 ?_; (with_reducible refine (spec_l04Cells.calls k1 g s0_0 x1001_1 x1002_1 t422 t425 t426 w0 _ ?side1 ?side2 A13.out).mono ?_); (case side1 => exact Z39); (case side2 => exact Z40); rintro e w18 ⟨v423, rfl, ho0, hi, hb, hk⟩; refine ⟨_, rfl, ?_⟩; replace BK414 := Z (KeepBut.blk hk (g' := gb414) (o := .cells #[.slice none 0 0] 34 (0, 0)) (Z11 BK414) NB414_0.out (by simp)); replace BK421 := Z (KeepBut.blk hk (g' := gb421) (o := .cells #[.slice Ao17 x422000_1.length co17] 34 (0, 0)) (Z11 BK421) NB421_0.out (by simp)); have HO424 := Z (Kd.R_lower (Kd.R_new' ho0 (Kd.R_lt (Z7 HO_422000))) (keep_size (w := w) (g := g) (row := none) Z41)); replace HO_422000 := Z (Kd.R_mono (Kd.R_told (Kd.R_oldK (IsS97.apart (show IsS97 w0 _ g s0_0 x1001_1 x1002_1 from Z39) (Z7 HO_422000) (by decide)) hk) (Kd.R_base ho0)) (fun _ h_ => h_.1)); replace HK := Z (KeepBut.trans Z41 hk (.inl rfl)); replace HB := Z (hb); replace HI0 := Z (hi); (try clear hb); (try clear hb2); (try clear hk); (try clear hi); (try clear ho0)))
    go_loopg [6] k1 (fun kq v6 w' => ∃ (x5_2 : List Int) (x6_2 : Int) (x422000_2 : List Int) (u422000 : Value), v6 = .int .i64 x6_2 ∧ Aside0 (spec_l05Make.l1 kq x4_1 x5_2 x6_2 s0_0 t425 t426 x422000_2 = some (r1, r2, r3)) ∧ Aside0 (kq ≤ k1) ∧ Aside0 (Kd.R (Kd.int .u32) 47 w' w.heap.size (fun k_ => some k_ ≠ (u422000 : Value).ownBlock) v423 x5_2) ∧ Aside0 (Kd.R (Kd.int .u32) 47 w' w.heap.size (fun k_ => some k_ ≠ (v423 : Value).ownBlock) u422000 x422000_2) ∧ Aside0 (w'.heap[gb414]? = some (.cells #[(.slice none 0 0)] 34 (0, 0))) ∧ Aside0 (w'.heap[gb421]? = some (.cells #[u422000] 34 (0, 0))) ∧ Aside0 (IsS97 w0 w' g s0_0 t425 t426) ∧ Aside0 (KeepBut w w' g none) ∧ Aside0 (Below w0.heap.size w0 w'))
    case atStart => exact ⟨(t422), (0), (x422000_1), (.slice Ao17 x422000_1.length co17), Z0, H', ⟨Nat.le_refl _⟩, ⟨(Z18 HO424)⟩, ⟨(Z18 HO_422000)⟩, ⟨(Z11 BK414)⟩, ⟨(Z11 BK421)⟩, ⟨Z39⟩, ⟨Z41⟩, ⟨Z40⟩⟩
    case round =>
     clear H'
     try clear c1
     try clear p2
     try clear c5
     try clear p6
     try clear c7
     try clear c9
     try clear c10
     try clear c11
     try clear c12
     try clear c12b0
     try clear c14
     try clear c15
     try clear hcz11_0
     try clear hcz16_0
     try clear hfz11_0
     try clear hfz16_0
     try clear p2
     try clear p6
     obtain ⟨x5_2, x6_2, x422000_2, u422000, rfl, HA, HK2, HO_5, HO_422000, BK414, BK421, HI0, HK, HB⟩ := hrel
     cases gk with
     | zero => exact absurd HA.out (by simp [spec_l05Make.l1])
     | succ k2 =>
      have H := HA.out
      clear HA
      simp only [spec_l05Make.l1] at H
      by_cases c19 : x6_2 < (x5_2.length : Int)
      ·rw [if_pos c19] at H
       have c19b0 : decide (x6_2 < (x5_2.length : Int)) = true := decide_eq_true c19
       clear c19
       by_cases c20 : x6_2 < 64
       ·rw [if_pos c20] at H
        have c20b0 : decide (x6_2 < 64) = true := decide_eq_true c20
        clear c20
        by_cases c21 : 0 ≤ x6_2
        ·rw [if_pos c21] at H
         have c21b0 : decide (0 ≤ x6_2) = true := decide_eq_true c21
         clear c21
         obtain ⟨ji22, hji22⟩ : ∃ j_ : Int, (wrap64 ((wrap64 (x4_1 * 64)) + x6_2)) = j_ := ⟨_, rfl⟩
         replace H : (if 0 ≤ (ji22) then (if (ji22) < (x422000_2.length : Int) then (spec_l05Make.l1 k2 x4_1 x5_2 (wrap64 (x6_2 + 1)) s0_0 t425 t426 (x422000_2.set ((ji22) : Int).toNat (rd x5_2 x6_2))) else (none)) else (none)) = some (r1, r2, r3) := Z19
         have hji22w : (IntKind.i64.wrap ((wrap64 (x4_1 * 64)) + x6_2)) = ji22 := (i64_w _).trans hji22
         by_cases c23 : 0 ≤ (ji22)
         ·rw [if_pos c23] at H
          have c23b0 : decide (0 ≤ (ji22)) = true := decide_eq_true c23
          clear c23
          by_cases c24 : (ji22) < (x422000_2.length : Int)
          ·rw [if_pos c24] at H
           have c24b0 : decide ((ji22) < (x422000_2.length : Int)) = true := decide_eq_true c24
           clear c24
           obtain ⟨y428, hy428⟩ : ∃ y_ : List Int, y_ = (x422000_2.set ((ji22) : Int).toNat (rd x5_2 x6_2)) := ⟨_, rfl⟩
           replace H : (spec_l05Make.l1 k2 x4_1 x5_2 (wrap64 (x6_2 + 1)) s0_0 t425 t426 y428) = some (r1, r2, r3) := by first | (rw [hy428]; with_reducible exact H) | (have H2_ := (Option.bind_some _ _).symm.trans H; rw [hy428]; with_reducible exact H2_) | (have H2_ := (Option.bind_some _ _).symm.trans H; with_reducible exact H2_) | with_reducible exact H | (rw [hy428]; exact H) | exact H
           have Ny428 := Aside0.mk hy428
           clear hy428
           have H' := Aside0.mk H
           clear H
           obtain ⟨Ao26, co26, eo26⟩ := Kd.R_slice HO_5.out
           subst eo26
           try go_wp2
           have n0_ := Z (Kd.R_drew HO_5.out)
           have n1_ := Z (Kd.R_drew HO_422000.out)
           have n2_ := Z (blk_drew BK414.out)
           have n3_ := Z (blk_drew BK421.out)
           have n4_ := Z (IsS97.drew HI0.out)
           have n5_ := Z (keep_drew HK.out)
           have n6_ := Z (below_drew1 HB.out)
           clear HO_5
           clear HO_422000
           clear BK414
           clear BK421
           clear HI0
           clear HK
           clear HB
           have HO_5 := n0_
           have HO_422000 := n1_
           have BK414 := n2_
           have BK421 := n3_
           have HI0 := n4_
           have HK := n5_
           have HB := n6_
           clear n0_ n1_ n2_ n3_ n4_ n5_ n6_
           have p427 : 0 ≤ (x6_2 : Int) := of_decide_eq_true Z2
           have q427 : x6_2 < (x5_2.length : Int) := of_decide_eq_true Z2
           obtain ⟨ad427, e427, hx427_0⟩ := Kd.at_int (Kd.R_reads' HO_5.out).2.2 x6_2 p427 q427
           cases e427
           replace p427 := eq_true p427
           replace q427 := eq_true q427
           have p25 : 0 ≤ ((ji22) : Int) := of_decide_eq_true Z2
           have q25 : ((ji22) : Int) < ((x422000_2.length : Int) : Int) := of_decide_eq_true Z2
           obtain ⟨go25, co25, eo25, gb25, gl25, cl25, HG25⟩ := Kd.R_form HO_422000.out (by omega)
           (first | cases eo25 | (injection eo25 with ea_ en_ ec_; (first | subst ea_ | (injection ea_ with ea_; subst ea_)); subst ec_; clear en_))
           have GB25 := Aside0.mk gb25
           have GG25 := Aside0.mk HG25
           clear gb25 gl25 HG25
           obtain ⟨hx25_0, hf25_0⟩ := Kd.R_celln 0 HO_422000.out ((ji22) : Int) p25 q25
           replace p25 := eq_true p25
           replace q25 := eq_true q25
           have HN0_go25 := Z (show g ≠ go25 from by have h_ := IsS97.own_ne HI0.out HO_422000.out (by decide); intro e_; exact h_ (by rw [e_]; rfl))
           have HP28 := Kd.R_putn HO_422000.out ((ji22) : Int) (rd x5_2 x6_2)
           rw [← Ny428.out] at HP28
           have HQ28 := Aside0.mk HP28
           clear HP28
           refine start_ (n := 12) (S := fun w' => w'.cell? ⟨gb421, 0, none⟩ = some (.slice (some ⟨go25, 0, none⟩) x422000_2.length co25) ∧ w'.cell? (ad427.add (x6_2).toNat) = some (.int .u32 (rd x5_2 x6_2))) (ds := [11]) #[false, false, false, false, false, false, false, false, false, false, false, false] Z9 rfl rfl ⟨(blk_cell BK421.out 0).trans rfl, hx427_0⟩ (fun hHeld => ?_); refine with_tabW spec_l05Make.tab9 spec_l05Make.bits9 (fun HT_ HW_ => ?_)
           generalize wr.drew = w27 at HO_5 HO_422000 BK414 BK421 HI0 HK HB GG25 HQ28 hf25_0 hx25_0 hx427_0 hHeld ⊢
           refine pure_ (i := 0) (N := some 31) (v := ?_) (a' := ?_) #[true, false, false, false, false, false, false, false, false, false, false, false] rfl rfl (any_of HT_.out Z9) (fun _ _ _ h => h) (Or.inl ⟨by rfl, ?_⟩) ?_ ?_
           rotate_left
           ·intro w'
            go_simp
            with_reducible rfl
           rotate_left
           ·simp only [Act.put, List.setIfInBounds_toArray, List.set_cons_zero, List.set_cons_succ, i64_w, i32_w]
            rfl
           refine pure_ (i := 2) (N := some 33) (v := ?_) (a' := ?_) #[true, false, true, false, false, false, false, false, false, false, false, false] rfl rfl (any_of HT_.out Z9) (fun _ _ _ h => h) (Or.inl ⟨by rfl, ?_⟩) ?_ ?_
           rotate_left
           ·intro w'
            go_simp
            with_reducible rfl
           rotate_left
           ·simp only [Act.put, List.setIfInBounds_toArray, List.set_cons_zero, List.set_cons_succ, i64_w, i32_w]
            rfl
           refine pure_ (i := 3) (N := some 34) (v := ?_) (a' := ?_) #[true, false, true, true, false, false, false, false, false, false, false, false] rfl rfl (any_of HT_.out Z9) (fun _ _ _ h => h) (Or.inl ⟨by rfl, ?_⟩) ?_ ?_
           rotate_left
           ·intro w'
            go_simp
            with_reducible rfl
           rotate_left
           ·simp only [Act.put, List.setIfInBounds_toArray, List.set_cons_zero, List.set_cons_succ, i64_w, i32_w]
            rfl
           refine pure_ (i := 4) (N := some 35) (v := ?_) (a' := ?_) #[true, false, true, true, true, false, false, false, false, false, false, false] rfl rfl (any_of HT_.out Z9) (fun _ _ _ h => h) (Or.inl ⟨by rfl, ?_⟩) ?_ ?_
           rotate_left
           ·intro w'
            go_simp
            with_reducible rfl
           rotate_left
           ·simp only [Act.put, List.setIfInBounds_toArray, List.set_cons_zero, List.set_cons_succ, i64_w, i32_w]
            rfl
           refine pure_ (i := 5) (N := some 36) (v := ?_) (a' := ?_) #[true, false, true, true, true, true, false, false, false, false, false, false] rfl rfl (any_of HT_.out Z9) (fun _ _ _ h => h) (Or.inl ⟨by rfl, ?_⟩) ?_ ?_
           rotate_left
           ·intro w'
            go_simp
            with_reducible rfl
           rotate_left
           ·simp only [Act.put, List.setIfInBounds_toArray, List.set_cons_zero, List.set_cons_succ, i64_w, i32_w]
            rfl
           refine pure_ (i := 6) (N := some 37) (v := ?_) (a' := ?_) #[true, false, true, true, true, true, true, false, false, false, false, false] rfl rfl (any_of HT_.out Z9) (fun _ _ _ h => h) (Or.inl ⟨by rfl, ?_⟩) ?_ ?_
           rotate_left
           ·intro w'
            go_simp
            with_reducible rfl
           rotate_left
           ·simp only [Act.put, List.setIfInBounds_toArray, List.set_cons_zero, List.set_cons_succ, i64_w, i32_w]
            rfl
           refine pure_ (i := 7) (N := some 38) (v := ?_) (a' := ?_) #[true, false, true, true, true, true, true, true, false, false, false, false] rfl rfl (any_of HT_.out Z9) (fun _ _ _ h => h) (Or.inl ⟨by rfl, ?_⟩) ?_ ?_
           rotate_left
           ·intro w'
            go_simp
            with_reducible rfl
           rotate_left
           ·simp only [Act.put, List.setIfInBounds_toArray, List.set_cons_zero, List.set_cons_succ, i64_w, i32_w]
            rfl
           refine pure_ (i := 8) (N := some 39) (v := ?_) (a' := ?_) #[true, false, true, true, true, true, true, true, true, false, false, false] rfl rfl (any_of HT_.out Z9) (fun _ _ _ h => h) (Or.inl ⟨by rfl, ?_⟩) ?_ ?_
           rotate_left
           ·intro w'
            go_simp
            with_reducible rfl
           rotate_left
           ·simp only [Act.put, List.setIfInBounds_toArray, List.set_cons_zero, List.set_cons_succ, i64_w, i32_w]
            rfl
           refine take_ (i := 1) (N := some 32) (v := ?_) (a' := ?_) #[true, true, true, true, true, true, true, true, true, false, false, false] rfl rfl (take_ofW HT_.out HW_.out Z9) (fun _ _ _ h => h) (Or.inl ⟨by rfl, ?_⟩) hHeld ?_ ?_
           rotate_left
           ·rintro w' ⟨s0, s1⟩
            go_simp
            with_reducible rfl
           rotate_left
           ·simp only [Act.put, List.setIfInBounds_toArray, List.set_cons_zero, List.set_cons_succ, i64_w, i32_w]
            rfl
           refine take_ (i := 9) (N := some 40) (v := ?_) (a' := ?_) #[true, true, true, true, true, true, true, true, true, true, false, false] rfl rfl (take_ofW HT_.out HW_.out Z9) (fun _ _ _ h => h) (Or.inl ⟨by rfl, ?_⟩) hHeld ?_ ?_
           rotate_left
           ·rintro w' ⟨s0, s1⟩
            go_simp
            with_reducible rfl
           rotate_left
           ·simp only [Act.put, List.setIfInBounds_toArray, List.set_cons_zero, List.set_cons_succ, i64_w, i32_w]
            rfl
           refine pure_ (i := 10) (N := some 41) (v := ?_) (a' := ?_) #[true, true, true, true, true, true, true, true, true, true, true, false] rfl rfl (any_of HT_.out Z9) (fun _ _ _ h => h) (Or.inl ⟨by rfl, ?_⟩) ?_ ?_
           rotate_left
           ·intro w'
            go_simp
            with_reducible rfl
           rotate_left
           ·simp only [Act.put, List.setIfInBounds_toArray, List.set_cons_zero, List.set_cons_succ, i64_w, i32_w]
            rfl
           refine last_ (i := 11) (N := none) #[true, true, true, true, true, true, true, true, true, true, true, true] rfl rfl (one_of HT_.out Z9) (by decide) (fun K hK => ?_)
           refine skip_ (w1 := ?_) (by rfl) rfl ?_ ?_
           rotate_left
           ·go_simp
            rfl
           refine hK.out _ _ ?_
           clear hK K
           refine done_ (done_of HT_.out Z9) ?_
           try go_wp2
           go_roundg k2
           case measure => have := HK1.out; have := HK2.out; omega
           case rel => exact ⟨(x5_2), (wrap64 (x6_2 + 1)), (y428), (.slice (some ⟨go25, 0, none⟩) x422000_2.length co25), Z0, H', ⟨Z20⟩, ⟨by (with_reducible repeat (first | apply Kd.R_alloc | apply Kd.R_drewN | apply Kd.R_drew)); exact Kd.R_mono (Kd.R_far (p := ⟨go25, ((ji22) : Int).toNat, none⟩) (Kd.R_mono HO_5.out (fun k_ hk => (⟨hk, fun e_ => hk (by rw [e_]; rfl)⟩ : _ ∧ k_ ≠ go25))) (fun _ hk => hk.2) (.int .u32 (rd x5_2 x6_2))) (fun _ hk => hk.1)⟩, ⟨by (with_reducible repeat (first | apply Kd.R_alloc | apply Kd.R_drewN | apply Kd.R_drew)); exact HQ28.out⟩, ⟨by (with_reducible repeat (first | refine blk_drewN ?_ _ | refine blk_drew ?_ | refine blk_alloc ?_ _)); refine blk_far ?_ (by have h_ := Kd.R_ne HO_422000.out BK414.out (by decide); intro e_; exact h_ (by rw [e_]; rfl)) _; (with_reducible repeat (first | refine blk_drewN ?_ _ | refine blk_drew ?_ | refine blk_alloc ?_ _)); exact BK414.out⟩, ⟨by (with_reducible repeat (first | refine blk_drewN ?_ _ | refine blk_drew ?_ | refine blk_alloc ?_ _)); refine blk_far ?_ (by have h_ := Kd.R_ne HO_422000.out BK421.out (by decide); intro e_; exact h_ (by rw [e_]; rfl)) _; (with_reducible repeat (first | refine blk_drewN ?_ _ | refine blk_drew ?_ | refine blk_alloc ?_ _)); exact BK421.out⟩, ⟨by repeat (first | (with_reducible first | exact HI0.out | apply IsS97.alloc | apply IsS97.drewN | apply IsS97.drew | apply IsS97.set_1 | apply IsS97.set_2 | refine IsS97.far ?_ HN0_go25.out _ | refine IsS97.far ?_ NB0_414.out _ | refine IsS97.far ?_ NB0_421.out _) | exact HI0.out)⟩, ⟨Z41⟩, ⟨by repeat (first | (with_reducible first | exact HB.out | apply below_alloc | apply pw_below_drewN | apply below_drew1 | refine below_set ?_ (Nat.le_trans HL.out GB25.out) | refine below_set ?_ (IsS97.ge HI0.out) | refine below_set ?_ GE414.out | refine below_set ?_ GE421.out) | exact HB.out)⟩⟩
          ·rw [if_neg c24] at H
           exact absurd H (by simp)
         ·rw [if_neg c23] at H
          exact absurd H (by simp)
        ·rw [if_neg c21] at H
         exact absurd H (by simp)
       ·rw [if_neg c20] at H
        have c20b0 : decide (x6_2 < 64) = false := decide_eq_false c20
        clear c20
        have H' := Aside0.mk H
        clear H
        obtain ⟨Ao29, co29, eo29⟩ := Kd.R_slice HO_5.out
        subst eo29
        go_wp2
        go_roundg k2
        case measure => have := HK1.out; have := HK2.out; omega
        case rel => exact ⟨(wrap64 (x4_1 + 1)), (t425), (t426), (x422000_2), (u422000), Z0, H', ⟨Z20⟩, ⟨(Z17 HO_422000)⟩, ⟨(Z11 BK414)⟩, ⟨(Z11 BK421)⟩, ⟨Z39⟩, ⟨Z41⟩, ⟨Z40⟩⟩
      ·rw [if_neg c19] at H
       have c19b0 : decide (x6_2 < (x5_2.length : Int)) = false := decide_eq_false c19
       clear c19
       have H' := Aside0.mk H
       clear H
       obtain ⟨Ao30, co30, eo30⟩ := Kd.R_slice HO_5.out
       subst eo30
       go_wp2
       go_roundg k2
       case measure => have := HK1.out; have := HK2.out; omega
       case rel => exact ⟨(wrap64 (x4_1 + 1)), (t425), (t426), (x422000_2), (u422000), Z0, H', ⟨Z20⟩, ⟨(Z17 HO_422000)⟩, ⟨(Z11 BK414)⟩, ⟨(Z11 BK421)⟩, ⟨Z39⟩, ⟨Z41⟩, ⟨Z40⟩⟩
   ·rw [if_neg c12] at H
    have c12b0 : decide (x4_1 < (wrap64 ((x422000_1.length : Int) / 64))) = false := decide_eq_false c12
    clear c12
    simp only [Option.some.injEq, Prod.mk.injEq] at H
    obtain ⟨rfl, rfl, rfl⟩ := H
    have hnb31 := NB421_414.out
    have hnc31 := NB414_421.out
    have hnb32 := NB421_0.out
    have hnc32 := NB0_421.out
    have hcz33_0 : wr.cell? ⟨gb421, 0, none⟩ = some (u422000) := (blk_cell BK421.out 0).trans rfl
    have hfz33_0 := blk_frozen BK421.out 0
    obtain ⟨Ao34, co34, eo34⟩ := Kd.R_slice HO_422000.out
    subst eo34
    have hnb35 := NB414_0.out
    have hnc35 := NB0_414.out
    have hcz36_0 : wr.cell? ⟨gb414, 0, none⟩ = some (.slice none 0 0) := (blk_cell BK414.out 0).trans rfl
    have hfz36_0 := blk_frozen BK414.out 0
    go_wp2
    refine bodyPost_ret (results_cell_row rfl _ _ gb414 34 #[.slice Ao34 x422000_1.length co34] (0, 0) _ rfl (Z14 BK414) Try.underlying34 rfl Z9) rfl ?_
    exact ⟨_, Z8, by (with_reducible repeat (first | apply Kd.R_alloc | apply Kd.R_drewN | apply Kd.R_drew)); exact Kd.R_mono (Kd.R_far (p := ⟨gb414, 0, none⟩) (Kd.R_types HO_422000.out BK414.out (by decide)) (fun _ hk => hk.2) (.slice Ao34 x422000_1.length co34)) (fun _ hk => trivial), Z39, Z40, Z41⟩

/-! ### spec_l05Any: function 72 -/
def spec_l05Any.f (k : Nat) (s0_0 : List Int) (s0_1 : Int) (s0_2 : Int) : Option (List Int × Int × Int) := (spec_l05Make.f k s0_0 s0_1 s0_2).bind fun bt430 => ((spec_l01Below.f s0_0 bt430.2.1 bt430.2.2 12).bind fun bt436 => (if bt436.1 = 0 then (if bt430.1.length < 35184372088832 then (some ((bt430.1 ++ [7]), bt436.2.1, bt436.2.2)) else (none)) else (if bt436.1 = 1 then ((spec_l01Below.f s0_0 bt436.2.1 bt436.2.2 3).bind fun bt442 => (if 0 ≤ (wrap64 (64 * (wrap64 (11 + bt442.1)))) then (if (wrap64 (64 * (wrap64 (11 + bt442.1))) : Int).toNat ≤ 70368744177664 then (some ((List.replicate (wrap64 (64 * (wrap64 (11 + bt442.1))) : Int).toNat 0), bt442.2.1, bt442.2.2)) else (none)) else (none))) else (if bt436.1 = 2 then (some (([] : List Int), bt436.2.1, bt436.2.2)) else (some (bt430.1, bt436.2.1, bt436.2.2))))))
theorem spec_l05Any.mono : ∀ a0 a1 a2 k, LeO (spec_l05Any.f k a0 a1 a2) (spec_l05Any.f (k + 1) a0 a1 a2) := by
 intro a0 a1 a2 k
 unfold spec_l05Any.f
 repeat' first
   | (with_reducible exact spec_l05Make.mono _ _ _ _)
   | (with_reducible exact LeO.refl _)
   | (with_reducible exact LeO.none _)
   | (with_reducible refine LeO.ite ?_ ?_)
   | (with_reducible refine LeO.bind ?_ (fun _ => ?_))
   | exact spec_l05Make.mono _ _ _ _
   | exact LeO.none _
   | refine LeO.ite ?_ ?_
   | refine LeO.bind ?_ (fun _ => ?_)
set_option maxHeartbeats 8000000 in
set_option maxRecDepth 100000 in
theorem spec_l05Any.calls (k : Nat) (g : Nat) (s0_0 : List Int) (s0_1 : Int) (s0_2 : Int) (r1 : List Int) (r2 : Int) (r3 : Int) (w0 w : World) (hI : IsS97 w0 w g s0_0 s0_1 s0_2) (hB : Below w0.heap.size w0 w) (h : spec_l05Any.f k s0_0 s0_1 s0_2 = some (r1, r2, r3)) :
  Calls Try.prog 72 #[.pointer (some ⟨g, 0, none⟩)] w fun e w' => ∃ v0_ : Value, e = .returned (.agg #[v0_]) ∧ Kd.R (Kd.int .u32) 47 w' w.heap.size (fun _ => True) v0_ r1 ∧ IsS97 w0 w' g s0_0 r2 r3 ∧ Below w0.heap.size w0 w' ∧ KeepBut w w' g none := by
 have hu34 := Try.underlying34
 have HI0 := Aside0.mk hI
 have HK := Z (KeepBut.refl w g none)
 have HL := Aside0.mk hB.size
 clear hI
 have HW0 := Aside0.mk hB.size
 have HB := Aside0.mk hB
 clear hB
 have H : ((spec_l05Make.f k s0_0 s0_1 s0_2).bind fun bt430 => ((spec_l01Below.f s0_0 bt430.2.1 bt430.2.2 12).bind fun bt436 => (if bt436.1 = 0 then (if bt430.1.length < 35184372088832 then (some ((bt430.1 ++ [7]), bt436.2.1, bt436.2.2)) else (none)) else (if bt436.1 = 1 then ((spec_l01Below.f s0_0 bt436.2.1 bt436.2.2 3).bind fun bt442 => (if 0 ≤ (wrap64 (64 * (wrap64 (11 + bt442.1)))) then (if (wrap64 (64 * (wrap64 (11 + bt442.1))) : Int).toNat ≤ 70368744177664 then (some ((List.replicate (wrap64 (64 * (wrap64 (11 + bt442.1))) : Int).toNat 0), bt442.2.1, bt442.2.2)) else (none)) else (none))) else (if bt436.1 = 2 then (some (([] : List Int), bt436.2.1, bt436.2.2)) else (some (bt430.1, bt436.2.1, bt436.2.2))))))) = some (r1, r2, r3) := h
 clear h
 replace H := Option.bind_eq_some_iff.mp H
 obtain ⟨⟨t430, t433, t434⟩, A20, H⟩ := H
 replace H : ((spec_l01Below.f s0_0 t433 t434 12).bind fun bt436 => (if bt436.1 = 0 then (if t430.length < 35184372088832 then (some ((t430 ++ [7]), bt436.2.1, bt436.2.2)) else (none)) else (if bt436.1 = 1 then ((spec_l01Below.f s0_0 bt436.2.1 bt436.2.2 3).bind fun bt442 => (if 0 ≤ (wrap64 (64 * (wrap64 (11 + bt442.1)))) then (if (wrap64 (64 * (wrap64 (11 + bt442.1))) : Int).toNat ≤ 70368744177664 then (some ((List.replicate (wrap64 (64 * (wrap64 (11 + bt442.1))) : Int).toNat 0), bt442.2.1, bt442.2.2)) else (none)) else (none))) else (if bt436.1 = 2 then (some (([] : List Int), bt436.2.1, bt436.2.2)) else (some (t430, bt436.2.1, bt436.2.2)))))) = some (r1, r2, r3) := H
 have A2 := Aside0.mk A20
 clear A20
 replace H := Option.bind_eq_some_iff.mp H
 obtain ⟨⟨t436, t437, t438⟩, A30, H⟩ := H
 replace H : (if t436 = 0 then (if t430.length < 35184372088832 then (some ((t430 ++ [7]), t437, t438)) else (none)) else (if t436 = 1 then ((spec_l01Below.f s0_0 t437 t438 3).bind fun bt442 => (if 0 ≤ (wrap64 (64 * (wrap64 (11 + bt442.1)))) then (if (wrap64 (64 * (wrap64 (11 + bt442.1))) : Int).toNat ≤ 70368744177664 then (some ((List.replicate (wrap64 (64 * (wrap64 (11 + bt442.1))) : Int).toNat 0), bt442.2.1, bt442.2.2)) else (none)) else (none))) else (if t436 = 2 then (some (([] : List Int), t437, t438)) else (some (t430, t437, t438))))) = some (r1, r2, r3) := H
 have A3 := Aside0.mk A30
 clear A30
 by_cases c4 : t436 = 0
 ·rw [if_pos c4] at H
  have c4b0 : (t436 == 0) = true := beq_iff_eq.mpr c4
  have c4b1 : (t436 != 0) = false := bne_eq_false_iff_eq.mpr c4
  clear c4
  by_cases c5 : t430.length < 35184372088832
  ·rw [if_pos c5] at H
   have LMc5 := Aside0.mk c5
   clear c5
   obtain ⟨y439, hy439⟩ : ∃ y_ : List Int, y_ = (t430 ++ [7]) := ⟨_, rfl⟩
   replace H : (some (y439, t437, t438)) = some (r1, r2, r3) := by first | (rw [hy439]; with_reducible exact H) | (have H2_ := (Option.bind_some _ _).symm.trans H; rw [hy439]; with_reducible exact H2_) | (have H2_ := (Option.bind_some _ _).symm.trans H; with_reducible exact H2_) | with_reducible exact H | (rw [hy439]; exact H) | exact H
   have Ny439 := Aside0.mk hy439
   clear hy439
   simp only [Option.some.injEq, Prod.mk.injEq] at H
   obtain ⟨rfl, rfl, rfl⟩ := H
   go_enter Try.func72, Try.ntmps72
   go_wp2_with (first | ((with_reducible refine gate_dst (N := 2) rfl ?_); refine box_event (by rfl) (N := 2) (by rfl) (cs := #[.slice none 0 0]) (t := 34) Z4 ?_; intro gb429 hg w6 hbox hb; replace HB := Z (below_step Z40 hb); have BK429 := Z (hbox); have GW429 := Z ((Z56 : w.heap.size ≤ gb429)); have GE429 := Z ((Nat.le_trans HW0.out (Z56 : w.heap.size ≤ gb429) : w0.heap.size ≤ gb429)); replace HK := Z (KeepBut.trans Z41 (KeepBut.of_below hb g none) (.inl rfl)); have NB0_429 := Z ((Z57 : g ≠ gb429)); have NB429_0 := Z ((Z58 : gb429 ≠ g)); replace HI0 := Z (IsS97.below Z39 hb); clear hb hbox hg) | ((with_reducible refine gate_callee (f := 98) rfl ?_); refine goesL_ (some 5) rfl rfl Try.func98 Z9 rfl #[.pointer (some ⟨g, 0, none⟩)] rfl Z12 ?_; (with_reducible refine (spec_l05Make.calls k g s0_0 s0_1 s0_2 t430 t433 t434 w0 _ ?side1 ?side2 A2.out).mono ?_); (case side1 => exact Z39); (case side2 => exact Z40); rintro e w7 ⟨v431, rfl, ho0, hi, hb, hk⟩; refine ⟨_, rfl, ?_⟩; replace BK429 := Z (KeepBut.blk hk (g' := gb429) (o := .cells #[.slice none 0 0] 34 (0, 0)) (Z11 BK429) NB429_0.out (by simp)); have HO432 := Z (Kd.R_lower ho0 (keep_size (w := w) (g := g) (row := none) Z41)); replace HK := Z (KeepBut.trans Z41 hk (.inl rfl)); replace HB := Z (hb); replace HI0 := Z (hi); (try clear hb); (try clear hb2); (try clear hk); (try clear hi); (try clear ho0)) | ((with_reducible refine gate_dst (N := 3) rfl ?_); refine box_event (by rfl) (N := 3) (by rfl) (cs := #[.slice none 0 0]) (t := 34) Z4 ?_; intro gb435 hg w8 hbox hb; replace HO432 := Z (Kd.R_below (Z7 HO432) hb); replace HB := Z (below_step Z40 hb); have BK435 := Z (hbox); have GW435 := Z ((Z56 : w.heap.size ≤ gb435)); have GE435 := Z ((Nat.le_trans HW0.out (Z56 : w.heap.size ≤ gb435) : w0.heap.size ≤ gb435)); replace HK := Z (KeepBut.trans Z41 (KeepBut.of_below hb g none) (.inl rfl)); have NB429_435 := Z ((Z42 : gb429 ≠ gb435)); have NB435_429 := Z ((Z43 : gb435 ≠ gb429)); replace BK429 := Z (blk_below (g := gb429) (o := .cells #[.slice none 0 0] 34 (0, 0)) (Z11 BK429) hb); have NB0_435 := Z ((Z59 : g ≠ gb435)); have NB435_0 := Z ((Z60 : gb435 ≠ g)); replace HI0 := Z (IsS97.below Z39 hb); clear hb hbox hg; obtain ⟨Ao9, co9, eo9⟩ := Kd.R_slice HO432.out; subst eo9; have hnb10 := NB435_429.out; have hnc10 := NB429_435.out; have hnb11 := NB435_0.out; have hnc11 := NB0_435.out; have hcz12_0 : w8.cell? ⟨gb435, 0, none⟩ = some (.slice none 0 0) := (blk_cell BK435.out 0).trans rfl; have hfz12_0 := blk_frozen BK435.out 0) | ((with_reducible refine gate_callee (f := 73) rfl ?_); refine goesL_ (some 7) rfl rfl Try.func73 Z9 rfl #[.pointer (some ⟨g, 0, none⟩), .int .i64 12] rfl Z12 ?_; (with_reducible refine (spec_l01Below.calls g s0_0 t433 t434 12 t436 t437 t438 w0 _ ?side1 ?side2 A3.out).mono ?_); (case side1 => exact Z39); (case side2 => exact Z40); rintro e w13 ⟨rfl, hi, hb, hk⟩; refine ⟨_, rfl, ?_⟩; replace BK429 := Z (KeepBut.blk hk (g' := gb429) (o := .cells #[.slice none 0 0] 34 (0, 0)) (Z21 BK429) NB429_0.out (by simp)); replace HO432 := Z (Kd.R_mono (Kd.R_keep (IsS97.apart (show IsS97 w0 _ g s0_0 t433 t434 from Z39) (by (with_reducible repeat (first | apply Kd.R_alloc | apply Kd.R_drewN | apply Kd.R_drew)); exact (Kd.R_mono (Kd.R_far (p := ⟨gb435, 0, none⟩) (Kd.R_types HO432.out BK435.out (by decide)) (fun _ hk => hk.2) (.slice Ao9 t430.length co9)) (fun _ h_ => h_.1))) (by decide)) hk (fun _ h => h.2)) (fun _ h => h.1)); replace BK435 := Z (KeepBut.blk hk (g' := gb435) (o := .cells #[.slice Ao9 t430.length co9] 34 (0, 0)) (Z14 BK435) NB435_0.out (by simp)); replace HK := Z (KeepBut.trans Z41 hk (.inl rfl)); replace HB := Z (hb); replace HI0 := Z (hi); (try clear hb); (try clear hb2); (try clear hk); (try clear hi); have hcz14_0 : w13.cell? ⟨gb435, 0, none⟩ = some (.slice Ao9 t430.length co9) := (blk_cell BK435.out 0).trans rfl; have hfz14_0 := blk_frozen BK435.out 0) | ((with_reducible refine gate_builtin (b := .append) (xs := #[.tmp 11, .tmp 12]) rfl ?_); at_builtin; refine Kd.R_append (Kd.int .u32) w.heap.size rfl (.tmp 11) (.tmp 12) 24 47 (.int .u32 0) 4 rfl Try.underlying24 info47 rfl (by decide) (by omega) (.slice Ao9 t430.length co9) t430 7 [.int .u32 7] (fun _ => True) (fun _ => False) rfl rfl ?aP (fun _ hk => hk.elim) ?aF ?aO (Below.refl _ _) ?aS ?aL ?_; (case aP => exact rfl); (case aF => exact (fun _ _ => trivial)); (case aO => exact (Z7 HO432)); (case aS => exact (keep_size (w := w) (g := g) (row := none) Z41)); (case aL => have := LMc5.out; omega); intro v440 w15 ho hb hg hat; rw [← Ny439.out] at ho; replace BK429 := Z (blk_grown (g := gb429) (o := .cells #[.slice none 0 0] 34 (0, 0)) (Z11 BK429) hg (Kd.R_ne HO432.out BK429.out (by decide))); replace BK435 := Z (blk_grown (g := gb435) (o := .cells #[.slice Ao9 t430.length co9] 34 (0, 0)) (Z11 BK435) hg (Kd.R_ne HO432.out BK435.out (by decide))); replace HB := Z (below_weaken Z40 HL.out hb); replace HI0 := Z (IsS97.grown Z39 hg (IsS97.own_ne HI0.out HO432.out (by decide))); replace HK := Z (KeepBut.trans Z41 (KeepBut.of_grown hg g) (Kd.R_base2 HO432.out)); have HO441 := Z (ho); clear HO432; clear ho hb hg hat; obtain ⟨Ao16, co16, eo16⟩ := Kd.R_slice HO441.out; subst eo16; have hcz17_0 : w15.cell? ⟨gb435, 0, none⟩ = some (.slice Ao9 t430.length co9) := (blk_cell BK435.out 0).trans rfl; have hfz17_0 := blk_frozen BK435.out 0; have hnb18 := NB429_0.out; have hnc18 := NB0_429.out; have hcz19_0 : w15.cell? ⟨gb429, 0, none⟩ = some (.slice none 0 0) := (blk_cell BK429.out 0).trans rfl; have hfz19_0 := blk_frozen BK429.out 0))
   refine bodyPost_ret (results_cell_row rfl _ _ gb429 34 #[.slice Ao16 y439.length co16] (0, 0) _ rfl (by (with_reducible repeat (first | refine blk_drewN ?_ _ | refine blk_drew ?_ | refine blk_alloc ?_ _)); refine blk_put (cs := #[.slice none 0 0]) ?_ 0 _ rfl; (with_reducible repeat (first | refine blk_drewN ?_ _ | refine blk_drew ?_ | refine blk_alloc ?_ _)); refine blk_far ?_ NB429_435.out _; (with_reducible repeat (first | refine blk_drewN ?_ _ | refine blk_drew ?_ | refine blk_alloc ?_ _)); exact BK429.out) Try.underlying34 rfl Z9) rfl ?_
   exact ⟨_, Z8, by (with_reducible repeat (first | apply Kd.R_alloc | apply Kd.R_drewN | apply Kd.R_drew)); exact Kd.R_mono (Kd.R_far (p := ⟨gb429, 0, none⟩) (Kd.R_far (p := ⟨gb435, 0, none⟩) (Kd.R_types (Kd.R_types HO441.out BK435.out (by decide)) BK429.out (by decide)) (fun _ hk => hk.1.2) (.slice Ao16 y439.length co16)) (fun _ hk => hk.2) (.slice Ao16 y439.length co16)) (fun _ hk => trivial), Z39, Z40, Z41⟩
  ·rw [if_neg c5] at H
   exact absurd H (by simp)
 ·rw [if_neg c4] at H
  have c4b0 : (t436 == 0) = false := beq_eq_false_iff_ne.mpr c4
  have c4b1 : (t436 != 0) = true := bne_iff_ne.mpr c4
  by_cases c20 : t436 = 1
  ·rw [if_pos c20] at H
   have c20b0 : (t436 == 1) = true := beq_iff_eq.mpr c20
   have c20b1 : (t436 != 1) = false := bne_eq_false_iff_eq.mpr c20
   clear c20
   replace H := Option.bind_eq_some_iff.mp H
   obtain ⟨⟨t442, t443, t444⟩, A210, H⟩ := H
   replace H : (if 0 ≤ (wrap64 (64 * (wrap64 (11 + t442)))) then (if (wrap64 (64 * (wrap64 (11 + t442))) : Int).toNat ≤ 70368744177664 then (some ((List.replicate (wrap64 (64 * (wrap64 (11 + t442))) : Int).toNat 0), t443, t444)) else (none)) else (none)) = some (r1, r2, r3) := H
   have A21 := Aside0.mk A210
   clear A210
   obtain ⟨ji22, hji22⟩ : ∃ j_ : Int, (wrap64 (64 * (wrap64 (11 + t442)))) = j_ := ⟨_, rfl⟩
   replace H : (if 0 ≤ (ji22) then (if (ji22 : Int).toNat ≤ 70368744177664 then (some ((List.replicate (ji22 : Int).toNat 0), t443, t444)) else (none)) else (none)) = some (r1, r2, r3) := Z19
   (try rw [hji22] at A2)
   (try rw [hji22] at A3)
   (try rw [hji22] at A21)
   have hji22w : (IntKind.i64.wrap (64 * (wrap64 (11 + t442)))) = ji22 := (i64_w _).trans hji22
   by_cases c23 : 0 ≤ (ji22)
   ·rw [if_pos c23] at H
    have c23b0 := eq_true c23
    have c23b1 : decide (0 ≤ (ji22)) = true := decide_eq_true c23
    clear c23
    by_cases c24 : (ji22 : Int).toNat ≤ 70368744177664
    ·rw [if_pos c24] at H
     have c24b0 := eq_true c24
     have c24b1 : decide ((ji22 : Int).toNat ≤ 70368744177664) = true := decide_eq_true c24
     clear c24
     obtain ⟨y445, hy445⟩ : ∃ y_ : List Int, y_ = (List.replicate (ji22 : Int).toNat 0) := ⟨_, rfl⟩
     replace H : (some (y445, t443, t444)) = some (r1, r2, r3) := by first | (rw [hy445]; with_reducible exact H) | (have H2_ := (Option.bind_some _ _).symm.trans H; rw [hy445]; with_reducible exact H2_) | (have H2_ := (Option.bind_some _ _).symm.trans H; with_reducible exact H2_) | with_reducible exact H | (rw [hy445]; exact H) | exact H
     have Ny445 := Aside0.mk hy445
     clear hy445
     simp only [Option.some.injEq, Prod.mk.injEq] at H
     obtain ⟨rfl, rfl, rfl⟩ := H
     go_enter Try.func72, Try.ntmps72
     go_wp2_with (first | ((with_reducible refine gate_dst (N := 2) rfl ?_); refine box_event (by rfl) (N := 2) (by rfl) (cs := #[.slice none 0 0]) (t := 34) Z4 ?_; intro gb429 hg w25 hbox hb; replace HB := Z (below_step Z40 hb); have BK429 := Z (hbox); have GW429 := Z ((Z56 : w.heap.size ≤ gb429)); have GE429 := Z ((Nat.le_trans HW0.out (Z56 : w.heap.size ≤ gb429) : w0.heap.size ≤ gb429)); replace HK := Z (KeepBut.trans Z41 (KeepBut.of_below hb g none) (.inl rfl)); have NB0_429 := Z ((Z57 : g ≠ gb429)); have NB429_0 := Z ((Z58 : gb429 ≠ g)); replace HI0 := Z (IsS97.below Z39 hb); clear hb hbox hg) | ((with_reducible refine gate_callee (f := 98) rfl ?_); refine goesL_ (some 5) rfl rfl Try.func98 Z9 rfl #[.pointer (some ⟨g, 0, none⟩)] rfl Z12 ?_; (with_reducible refine (spec_l05Make.calls k g s0_0 s0_1 s0_2 t430 t433 t434 w0 _ ?side1 ?side2 A2.out).mono ?_); (case side1 => exact Z39); (case side2 => exact Z40); rintro e w26 ⟨v431, rfl, ho0, hi, hb, hk⟩; refine ⟨_, rfl, ?_⟩; replace BK429 := Z (KeepBut.blk hk (g' := gb429) (o := .cells #[.slice none 0 0] 34 (0, 0)) (Z11 BK429) NB429_0.out (by simp)); have HO432 := Z (Kd.R_lower ho0 (keep_size (w := w) (g := g) (row := none) Z41)); replace HK := Z (KeepBut.trans Z41 hk (.inl rfl)); replace HB := Z (hb); replace HI0 := Z (hi); (try clear hb); (try clear hb2); (try clear hk); (try clear hi); (try clear ho0)) | ((with_reducible refine gate_dst (N := 3) rfl ?_); refine box_event (by rfl) (N := 3) (by rfl) (cs := #[.slice none 0 0]) (t := 34) Z4 ?_; intro gb435 hg w27 hbox hb; replace HO432 := Z (Kd.R_below (Z7 HO432) hb); replace HB := Z (below_step Z40 hb); have BK435 := Z (hbox); have GW435 := Z ((Z56 : w.heap.size ≤ gb435)); have GE435 := Z ((Nat.le_trans HW0.out (Z56 : w.heap.size ≤ gb435) : w0.heap.size ≤ gb435)); replace HK := Z (KeepBut.trans Z41 (KeepBut.of_below hb g none) (.inl rfl)); have NB429_435 := Z ((Z42 : gb429 ≠ gb435)); have NB435_429 := Z ((Z43 : gb435 ≠ gb429)); replace BK429 := Z (blk_below (g := gb429) (o := .cells #[.slice none 0 0] 34 (0, 0)) (Z11 BK429) hb); have NB0_435 := Z ((Z59 : g ≠ gb435)); have NB435_0 := Z ((Z60 : gb435 ≠ g)); replace HI0 := Z (IsS97.below Z39 hb); clear hb hbox hg; obtain ⟨Ao28, co28, eo28⟩ := Kd.R_slice HO432.out; subst eo28; have hnb29 := NB435_429.out; have hnc29 := NB429_435.out; have hnb30 := NB435_0.out; have hnc30 := NB0_435.out; have hcz31_0 : w27.cell? ⟨gb435, 0, none⟩ = some (.slice none 0 0) := (blk_cell BK435.out 0).trans rfl; have hfz31_0 := blk_frozen BK435.out 0) | ((with_reducible refine gate_callee (f := 73) rfl ?_); refine goesL_ (some 7) rfl rfl Try.func73 Z9 rfl #[.pointer (some ⟨g, 0, none⟩), .int .i64 12] rfl Z12 ?_; (with_reducible refine (spec_l01Below.calls g s0_0 t433 t434 12 t436 t437 t438 w0 _ ?side1 ?side2 A3.out).mono ?_); (case side1 => exact Z39); (case side2 => exact Z40); rintro e w32 ⟨rfl, hi, hb, hk⟩; refine ⟨_, rfl, ?_⟩; replace BK429 := Z (KeepBut.blk hk (g' := gb429) (o := .cells #[.slice none 0 0] 34 (0, 0)) (Z21 BK429) NB429_0.out (by simp)); replace HO432 := Z (Kd.R_mono (Kd.R_keep (IsS97.apart (show IsS97 w0 _ g s0_0 t433 t434 from Z39) (by (with_reducible repeat (first | apply Kd.R_alloc | apply Kd.R_drewN | apply Kd.R_drew)); exact (Kd.R_mono (Kd.R_far (p := ⟨gb435, 0, none⟩) (Kd.R_types HO432.out BK435.out (by decide)) (fun _ hk => hk.2) (.slice Ao28 t430.length co28)) (fun _ h_ => h_.1))) (by decide)) hk (fun _ h => h.2)) (fun _ h => h.1)); replace BK435 := Z (KeepBut.blk hk (g' := gb435) (o := .cells #[.slice Ao28 t430.length co28] 34 (0, 0)) (Z14 BK435) NB435_0.out (by simp)); replace HK := Z (KeepBut.trans Z41 hk (.inl rfl)); replace HB := Z (hb); replace HI0 := Z (hi); (try clear hb); (try clear hb2); (try clear hk); (try clear hi)) | ((with_reducible refine gate_callee (f := 73) rfl ?_); refine goesL_ (some 18) rfl rfl Try.func73 Z9 rfl #[.pointer (some ⟨g, 0, none⟩), .int .i64 3] rfl Z12 ?_; (with_reducible refine (spec_l01Below.calls g s0_0 t437 t438 3 t442 t443 t444 w0 _ ?side1 ?side2 A21.out).mono ?_); (case side1 => exact Z39); (case side2 => exact Z40); rintro e w33 ⟨rfl, hi, hb, hk⟩; refine ⟨_, rfl, ?_⟩; replace BK429 := Z (KeepBut.blk hk (g' := gb429) (o := .cells #[.slice none 0 0] 34 (0, 0)) (Z11 BK429) NB429_0.out (by simp)); replace HO432 := Z (Kd.R_mono (Kd.R_keep (IsS97.apart (show IsS97 w0 _ g s0_0 t437 t438 from Z39) (Z7 HO432) (by decide)) hk (fun _ h => h.2)) (fun _ h => h.1)); replace BK435 := Z (KeepBut.blk hk (g' := gb435) (o := .cells #[.slice Ao28 t430.length co28] 34 (0, 0)) (Z11 BK435) NB435_0.out (by simp)); replace HK := Z (KeepBut.trans Z41 hk (.inl rfl)); replace HB := Z (hb); replace HI0 := Z (hi); (try clear hb); (try clear hb2); (try clear hk); (try clear hi)) | ((with_reducible refine gate_dst (N := 21) rfl ?_); refine Kd.R_make (Kd.int .u32) _ 47 rfl (N := 21) rfl 24 _ _ rfl ji22 rfl rfl Try.underlying24 (.int .u32 0) 4 info47 rfl (by decide) (by omega) 0 (ok := fun _ => True) (okp := fun _ => True) rfl (fun _ hk => hk) trivial (of_decide_eq_true Z2) (Nat.le_trans (Nat.mul_le_mul_right _ (of_decide_eq_true Z2 : ji22.toNat ≤ 70368744177664)) (by omega)) (Below.refl _ _) (Nat.le_refl _) ?_; intro v446 w34 ho35 hb hg_ hnew_; clear hg_ hnew_; (first | rw [← Ny445.out] at ho35 | (simp only [Int.reduceToNat] at ho35; rw [← Ny445.out] at ho35)); have HO447 := Z (Kd.R_lower (Kd.R_new' ho35 (Kd.R_lt (Z7 HO432))) (keep_size (w := w) (g := g) (row := none) Z41)); replace HO432 := Z (Kd.R_elder' (Z7 HO432) (Kd.R_base ho35) hb); replace BK429 := Z (blk_below (g := gb429) (o := .cells #[.slice none 0 0] 34 (0, 0)) (Z11 BK429) hb); replace BK435 := Z (blk_below (g := gb435) (o := .cells #[.slice Ao28 t430.length co28] 34 (0, 0)) (Z11 BK435) hb); replace HK := Z (KeepBut.trans Z41 (KeepBut.of_below hb g none) (.inl rfl)); replace HB := Z (below_step Z40 hb); replace HI0 := Z (IsS97.below Z39 hb); clear hb ho35; obtain ⟨Ao36, co36, eo36⟩ := Kd.R_slice HO447.out; subst eo36; have hnb37 := NB429_0.out; have hnc37 := NB0_429.out; have hcz38_0 : w34.cell? ⟨gb429, 0, none⟩ = some (.slice none 0 0) := (blk_cell BK429.out 0).trans rfl; have hfz38_0 := blk_frozen BK429.out 0))
     refine bodyPost_ret (results_cell_row rfl _ _ gb429 34 #[.slice Ao36 y445.length co36] (0, 0) _ rfl (Z14 BK429) Try.underlying34 rfl Z9) rfl ?_
     exact ⟨_, by first | rfl | (simp [errW_none, errW_some] <;> rfl) | (simp only [← hji22]; first | rfl | (simp [errW_none, errW_some] <;> rfl)) | (simp [*, errW_none, errW_some] <;> rfl), by (with_reducible repeat (first | apply Kd.R_alloc | apply Kd.R_drewN | apply Kd.R_drew)); exact Kd.R_mono (Kd.R_far (p := ⟨gb429, 0, none⟩) (Kd.R_types HO447.out BK429.out (by decide)) (fun _ hk => hk.2) (.slice Ao36 y445.length co36)) (fun _ hk => trivial), Z39, Z40, Z41⟩
    ·rw [if_neg c24] at H
     exact absurd H (by simp)
   ·rw [if_neg c23] at H
    exact absurd H (by simp)
  ·rw [if_neg c20] at H
   have c20b0 : (t436 == 1) = false := beq_eq_false_iff_ne.mpr c20
   have c20b1 : (t436 != 1) = true := bne_iff_ne.mpr c20
   by_cases c39 : t436 = 2
   ·rw [if_pos c39] at H
    have c39b0 : (t436 == 2) = true := beq_iff_eq.mpr c39
    have c39b1 : (t436 != 2) = false := bne_eq_false_iff_eq.mpr c39
    clear c39
    simp only [Option.some.injEq, Prod.mk.injEq] at H
    obtain ⟨rfl, rfl, rfl⟩ := H
    go_enter Try.func72, Try.ntmps72
    go_wp2_with (first | ((with_reducible refine gate_dst (N := 2) rfl ?_); refine box_event (by rfl) (N := 2) (by rfl) (cs := #[.slice none 0 0]) (t := 34) Z4 ?_; intro gb429 hg w40 hbox hb; replace HB := Z (below_step Z40 hb); have BK429 := Z (hbox); have GW429 := Z ((Z56 : w.heap.size ≤ gb429)); have GE429 := Z ((Nat.le_trans HW0.out (Z56 : w.heap.size ≤ gb429) : w0.heap.size ≤ gb429)); replace HK := Z (KeepBut.trans Z41 (KeepBut.of_below hb g none) (.inl rfl)); have NB0_429 := Z ((Z57 : g ≠ gb429)); have NB429_0 := Z ((Z58 : gb429 ≠ g)); replace HI0 := Z (IsS97.below Z39 hb); clear hb hbox hg) | ((with_reducible refine gate_callee (f := 98) rfl ?_); refine goesL_ (some 5) rfl rfl Try.func98 Z9 rfl #[.pointer (some ⟨g, 0, none⟩)] rfl Z12 ?_; (with_reducible refine (spec_l05Make.calls k g s0_0 s0_1 s0_2 t430 t433 t434 w0 _ ?side1 ?side2 A2.out).mono ?_); (case side1 => exact Z39); (case side2 => exact Z40); rintro e w41 ⟨v431, rfl, ho0, hi, hb, hk⟩; refine ⟨_, rfl, ?_⟩; replace BK429 := Z (KeepBut.blk hk (g' := gb429) (o := .cells #[.slice none 0 0] 34 (0, 0)) (Z11 BK429) NB429_0.out (by simp)); have HO432 := Z (Kd.R_lower ho0 (keep_size (w := w) (g := g) (row := none) Z41)); replace HK := Z (KeepBut.trans Z41 hk (.inl rfl)); replace HB := Z (hb); replace HI0 := Z (hi); (try clear hb); (try clear hb2); (try clear hk); (try clear hi); (try clear ho0)) | ((with_reducible refine gate_dst (N := 3) rfl ?_); refine box_event (by rfl) (N := 3) (by rfl) (cs := #[.slice none 0 0]) (t := 34) Z4 ?_; intro gb435 hg w42 hbox hb; replace HO432 := Z (Kd.R_below (Z7 HO432) hb); replace HB := Z (below_step Z40 hb); have BK435 := Z (hbox); have GW435 := Z ((Z56 : w.heap.size ≤ gb435)); have GE435 := Z ((Nat.le_trans HW0.out (Z56 : w.heap.size ≤ gb435) : w0.heap.size ≤ gb435)); replace HK := Z (KeepBut.trans Z41 (KeepBut.of_below hb g none) (.inl rfl)); have NB429_435 := Z ((Z42 : gb429 ≠ gb435)); have NB435_429 := Z ((Z43 : gb435 ≠ gb429)); replace BK429 := Z (blk_below (g := gb429) (o := .cells #[.slice none 0 0] 34 (0, 0)) (Z11 BK429) hb); have NB0_435 := Z ((Z59 : g ≠ gb435)); have NB435_0 := Z ((Z60 : gb435 ≠ g)); replace HI0 := Z (IsS97.below Z39 hb); clear hb hbox hg; obtain ⟨Ao43, co43, eo43⟩ := Kd.R_slice HO432.out; subst eo43; have hnb44 := NB435_429.out; have hnc44 := NB429_435.out; have hnb45 := NB435_0.out; have hnc45 := NB0_435.out; have hcz46_0 : w42.cell? ⟨gb435, 0, none⟩ = some (.slice none 0 0) := (blk_cell BK435.out 0).trans rfl; have hfz46_0 := blk_frozen BK435.out 0) | ((with_reducible refine gate_callee (f := 73) rfl ?_); refine goesL_ (some 7) rfl rfl Try.func73 Z9 rfl #[.pointer (some ⟨g, 0, none⟩), .int .i64 12] rfl Z12 ?_; (with_reducible refine (spec_l01Below.calls g s0_0 t433 t434 12 t436 t437 t438 w0 _ ?side1 ?side2 A3.out).mono ?_); (case side1 => exact Z39); (case side2 => exact Z40); rintro e w47 ⟨rfl, hi, hb, hk⟩; refine ⟨_, rfl, ?_⟩; replace BK429 := Z (KeepBut.blk hk (g' := gb429) (o := .cells #[.slice none 0 0] 34 (0, 0)) (Z21 BK429) NB429_0.out (by simp)); replace HO432 := Z (Kd.R_mono (Kd.R_keep (IsS97.apart (show IsS97 w0 _ g s0_0 t433 t434 from Z39) (by (with_reducible repeat (first | apply Kd.R_alloc | apply Kd.R_drewN | apply Kd.R_drew)); exact (Kd.R_mono (Kd.R_far (p := ⟨gb435, 0, none⟩) (Kd.R_types HO432.out BK435.out (by decide)) (fun _ hk => hk.2) (.slice Ao43 t430.length co43)) (fun _ h_ => h_.1))) (by decide)) hk (fun _ h => h.2)) (fun _ h => h.1)); replace BK435 := Z (KeepBut.blk hk (g' := gb435) (o := .cells #[.slice Ao43 t430.length co43] 34 (0, 0)) (Z14 BK435) NB435_0.out (by simp)); replace HK := Z (KeepBut.trans Z41 hk (.inl rfl)); replace HB := Z (hb); replace HI0 := Z (hi); (try clear hb); (try clear hb2); (try clear hk); (try clear hi); have hnb48 := NB429_0.out; have hnc48 := NB0_429.out; have hcz49_0 : w47.cell? ⟨gb429, 0, none⟩ = some (.slice none 0 0) := (blk_cell BK429.out 0).trans rfl; have hfz49_0 := blk_frozen BK429.out 0))
    refine bodyPost_ret (results_cell_row rfl _ _ gb429 34 #[.slice none 0 0] (0, 0) _ rfl (Z14 BK429) Try.underlying34 rfl Z9) rfl ?_
    exact ⟨_, Z8, Z15, Z39, Z40, Z41⟩
   ·rw [if_neg c39] at H
    have c39b0 : (t436 == 2) = false := beq_eq_false_iff_ne.mpr c39
    have c39b1 : (t436 != 2) = true := bne_iff_ne.mpr c39
    simp only [Option.some.injEq, Prod.mk.injEq] at H
    obtain ⟨rfl, rfl, rfl⟩ := H
    go_enter Try.func72, Try.ntmps72
    go_wp2_with (first | ((with_reducible refine gate_dst (N := 2) rfl ?_); refine box_event (by rfl) (N := 2) (by rfl) (cs := #[.slice none 0 0]) (t := 34) Z4 ?_; intro gb429 hg w50 hbox hb; replace HB := Z (below_step Z40 hb); have BK429 := Z (hbox); have GW429 := Z ((Z56 : w.heap.size ≤ gb429)); have GE429 := Z ((Nat.le_trans HW0.out (Z56 : w.heap.size ≤ gb429) : w0.heap.size ≤ gb429)); replace HK := Z (KeepBut.trans Z41 (KeepBut.of_below hb g none) (.inl rfl)); have NB0_429 := Z ((Z57 : g ≠ gb429)); have NB429_0 := Z ((Z58 : gb429 ≠ g)); replace HI0 := Z (IsS97.below Z39 hb); clear hb hbox hg) | ((with_reducible refine gate_callee (f := 98) rfl ?_); refine goesL_ (some 5) rfl rfl Try.func98 Z9 rfl #[.pointer (some ⟨g, 0, none⟩)] rfl Z12 ?_; (with_reducible refine (spec_l05Make.calls k g s0_0 s0_1 s0_2 t430 t433 t434 w0 _ ?side1 ?side2 A2.out).mono ?_); (case side1 => exact Z39); (case side2 => exact Z40); rintro e w51 ⟨v431, rfl, ho0, hi, hb, hk⟩; refine ⟨_, rfl, ?_⟩; replace BK429 := Z (KeepBut.blk hk (g' := gb429) (o := .cells #[.slice none 0 0] 34 (0, 0)) (Z11 BK429) NB429_0.out (by simp)); have HO432 := Z (Kd.R_lower ho0 (keep_size (w := w) (g := g) (row := none) Z41)); replace HK := Z (KeepBut.trans Z41 hk (.inl rfl)); replace HB := Z (hb); replace HI0 := Z (hi); (try clear hb); (try clear hb2); (try clear hk); (try clear hi); (try clear ho0)) | ((with_reducible refine gate_dst (N := 3) rfl ?_); refine box_event (by rfl) (N := 3) (by rfl) (cs := #[.slice none 0 0]) (t := 34) Z4 ?_; intro gb435 hg w52 hbox hb; replace HO432 := Z (Kd.R_below (Z7 HO432) hb); replace HB := Z (below_step Z40 hb); have BK435 := Z (hbox); have GW435 := Z ((Z56 : w.heap.size ≤ gb435)); have GE435 := Z ((Nat.le_trans HW0.out (Z56 : w.heap.size ≤ gb435) : w0.heap.size ≤ gb435)); replace HK := Z (KeepBut.trans Z41 (KeepBut.of_below hb g none) (.inl rfl)); have NB429_435 := Z ((Z42 : gb429 ≠ gb435)); have NB435_429 := Z ((Z43 : gb435 ≠ gb429)); replace BK429 := Z (blk_below (g := gb429) (o := .cells #[.slice none 0 0] 34 (0, 0)) (Z11 BK429) hb); have NB0_435 := Z ((Z59 : g ≠ gb435)); have NB435_0 := Z ((Z60 : gb435 ≠ g)); replace HI0 := Z (IsS97.below Z39 hb); clear hb hbox hg; obtain ⟨Ao53, co53, eo53⟩ := Kd.R_slice HO432.out; subst eo53; have hnb54 := NB435_429.out; have hnc54 := NB429_435.out; have hnb55 := NB435_0.out; have hnc55 := NB0_435.out; have hcz56_0 : w52.cell? ⟨gb435, 0, none⟩ = some (.slice none 0 0) := (blk_cell BK435.out 0).trans rfl; have hfz56_0 := blk_frozen BK435.out 0) | ((with_reducible refine gate_callee (f := 73) rfl ?_); refine goesL_ (some 7) rfl rfl Try.func73 Z9 rfl #[.pointer (some ⟨g, 0, none⟩), .int .i64 12] rfl Z12 ?_; (with_reducible refine (spec_l01Below.calls g s0_0 t433 t434 12 t436 t437 t438 w0 _ ?side1 ?side2 A3.out).mono ?_); (case side1 => exact Z39); (case side2 => exact Z40); rintro e w57 ⟨rfl, hi, hb, hk⟩; refine ⟨_, rfl, ?_⟩; replace BK429 := Z (KeepBut.blk hk (g' := gb429) (o := .cells #[.slice none 0 0] 34 (0, 0)) (Z21 BK429) NB429_0.out (by simp)); replace HO432 := Z (Kd.R_mono (Kd.R_keep (IsS97.apart (show IsS97 w0 _ g s0_0 t433 t434 from Z39) (by (with_reducible repeat (first | apply Kd.R_alloc | apply Kd.R_drewN | apply Kd.R_drew)); exact (Kd.R_mono (Kd.R_far (p := ⟨gb435, 0, none⟩) (Kd.R_types HO432.out BK435.out (by decide)) (fun _ hk => hk.2) (.slice Ao53 t430.length co53)) (fun _ h_ => h_.1))) (by decide)) hk (fun _ h => h.2)) (fun _ h => h.1)); replace BK435 := Z (KeepBut.blk hk (g' := gb435) (o := .cells #[.slice Ao53 t430.length co53] 34 (0, 0)) (Z14 BK435) NB435_0.out (by simp)); replace HK := Z (KeepBut.trans Z41 hk (.inl rfl)); replace HB := Z (hb); replace HI0 := Z (hi); (try clear hb); (try clear hb2); (try clear hk); (try clear hi); have hcz58_0 : w57.cell? ⟨gb435, 0, none⟩ = some (.slice Ao53 t430.length co53) := (blk_cell BK435.out 0).trans rfl; have hfz58_0 := blk_frozen BK435.out 0; have hnb59 := NB429_0.out; have hnc59 := NB0_429.out; have hcz60_0 : w57.cell? ⟨gb429, 0, none⟩ = some (.slice none 0 0) := (blk_cell BK429.out 0).trans rfl; have hfz60_0 := blk_frozen BK429.out 0))
    refine bodyPost_ret (results_cell_row rfl _ _ gb429 34 #[.slice Ao53 t430.length co53] (0, 0) _ rfl (Z14 BK429) Try.underlying34 rfl Z9) rfl ?_
    exact ⟨_, Z8, by (with_reducible repeat (first | apply Kd.R_alloc | apply Kd.R_drewN | apply Kd.R_drew)); exact Kd.R_mono (Kd.R_far (p := ⟨gb429, 0, none⟩) (Kd.R_types HO432.out BK429.out (by decide)) (fun _ hk => hk.2) (.slice Ao53 t430.length co53)) (fun _ hk => trivial), Z39, Z40, Z41⟩

/-! ### spec_DrawPutBlock: function 38 -/
def spec_DrawPutBlock.f (k : Nat) (l0 : List Int) : Option (List Int × Int × List Int) := (spec_l01New.f k l0).bind fun bt449 => ((spec_l05Any.f k bt449.1 bt449.2.1 bt449.2.2).bind fun bt453 => ((spec_l01Below.f bt449.1 bt453.2.1 bt453.2.2 5).bind fun bt459 => ((spec_l04Cells.f k bt449.1 bt459.2.1 bt459.2.2).bind fun bt462 => (some (bt453.1, wrap64 (bt459.1 - 1), bt462.1)))))
theorem spec_DrawPutBlock.mono : ∀ a0 k, LeO (spec_DrawPutBlock.f k a0) (spec_DrawPutBlock.f (k + 1) a0) := by
 intro a0 k
 unfold spec_DrawPutBlock.f
 repeat' first
   | (with_reducible exact spec_l01New.mono _ _)
   | (with_reducible exact spec_l04Cells.mono _ _ _ _)
   | (with_reducible exact spec_l05Any.mono _ _ _ _)
   | (with_reducible exact LeO.refl _)
   | (with_reducible exact LeO.none _)
   | (with_reducible refine LeO.ite ?_ ?_)
   | (with_reducible refine LeO.bind ?_ (fun _ => ?_))
   | exact spec_l01New.mono _ _
   | exact spec_l04Cells.mono _ _ _ _
   | exact spec_l05Any.mono _ _ _ _
   | exact LeO.none _
   | refine LeO.ite ?_ ?_
   | refine LeO.bind ?_ (fun _ => ?_)
set_option maxHeartbeats 8000000 in
set_option maxRecDepth 100000 in
theorem spec_DrawPutBlock.calls (k : Nat) (A0 : Option Addr) (c0 : Nat) (l0 : List Int) (r1 : List Int) (r2 : Int) (r3 : List Int) (w : World) (hr0 : Kd.C (Kd.int .u8) w A0 l0.length l0) (hc0 : l0.length ≤ c0) (h : spec_DrawPutBlock.f k l0 = some (r1, r2, r3)) :
  Calls Try.prog 38 #[.slice A0 l0.length c0] w fun e w' => ∃ v0_ v2_ : Value, e = .returned (.tuple #[.agg #[v0_], .int .i64 r2, v2_]) ∧ Kd.R (Kd.int .u32) 47 w' w.heap.size (fun k_ => some k_ ≠ (v2_ : Value).ownBlock) v0_ r1 ∧ Kd.R (Kd.int .u32) 47 w' w.heap.size (fun k_ => some k_ ≠ (v0_ : Value).ownBlock) v2_ r3 ∧ Below w.heap.size w w' := by
 have hu34 := Try.underlying34
 have HR0 := Aside0.mk hr0
 have HC0 := Aside0.mk hc0
 clear hr0 hc0
 have HB := Z (Below.refl w.heap.size w)
 have H : ((spec_l01New.f k l0).bind fun bt449 => ((spec_l05Any.f k bt449.1 bt449.2.1 bt449.2.2).bind fun bt453 => ((spec_l01Below.f bt449.1 bt453.2.1 bt453.2.2 5).bind fun bt459 => ((spec_l04Cells.f k bt449.1 bt459.2.1 bt459.2.2).bind fun bt462 => (some (bt453.1, wrap64 (bt459.1 - 1), bt462.1)))))) = some (r1, r2, r3) := h
 clear h
 replace H := Option.bind_eq_some_iff.mp H
 obtain ⟨⟨t449, t450, t451⟩, A20, H⟩ := H
 replace H : ((spec_l05Any.f k t449 t450 t451).bind fun bt453 => ((spec_l01Below.f t449 bt453.2.1 bt453.2.2 5).bind fun bt459 => ((spec_l04Cells.f k t449 bt459.2.1 bt459.2.2).bind fun bt462 => (some (bt453.1, wrap64 (bt459.1 - 1), bt462.1))))) = some (r1, r2, r3) := H
 have A2 := Aside0.mk A20
 clear A20
 replace H := Option.bind_eq_some_iff.mp H
 obtain ⟨⟨t453, t456, t457⟩, A30, H⟩ := H
 replace H : ((spec_l01Below.f t449 t456 t457 5).bind fun bt459 => ((spec_l04Cells.f k t449 bt459.2.1 bt459.2.2).bind fun bt462 => (some (t453, wrap64 (bt459.1 - 1), bt462.1)))) = some (r1, r2, r3) := H
 have A3 := Aside0.mk A30
 clear A30
 replace H := Option.bind_eq_some_iff.mp H
 obtain ⟨⟨t459, t460, t461⟩, A40, H⟩ := H
 replace H : ((spec_l04Cells.f k t449 t460 t461).bind fun bt462 => (some (t453, wrap64 (t459 - 1), bt462.1))) = some (r1, r2, r3) := H
 have A4 := Aside0.mk A40
 clear A40
 replace H := Option.bind_eq_some_iff.mp H
 obtain ⟨⟨t462, t465, t466⟩, A50, H⟩ := H
 replace H : (some (t453, wrap64 (t459 - 1), t462)) = some (r1, r2, r3) := H
 have A5 := Aside0.mk A50
 clear A50
 simp only [Option.some.injEq, Prod.mk.injEq] at H
 obtain ⟨rfl, rfl, rfl⟩ := H
 go_enter Try.func38, Try.ntmps38
 try go_wp2_with (first | ((with_reducible refine gate_dst (N := 2) rfl ?_); refine box_event (by rfl) (N := 2) (by rfl) (cs := #[.slice none 0 0]) (t := 34) Z4 ?_; intro gb448 hg w6 hbox hb; have BK448 := Z (hbox); have GW448 := Z ((Z54 : w.heap.size ≤ gb448)); have GE448 := Z ((Z54 : w.heap.size ≤ gb448)); replace HB := Z (below_step Z33 hb); clear hb hbox hg) | ((with_reducible refine gate_callee (f := 57) rfl ?_); refine goesL_ (some 9) rfl rfl Try.func57 Z9 rfl #[.slice A0 l0.length c0] rfl Z12 ?_; (with_reducible refine (spec_l01New.calls k _ _ l0 t449 t450 t451 w _ ?side1 ?side2 ?side3 A2.out).mono ?_); (case side1 => exact Z33); (case side2 => exact HR0.out); (case side3 => exact HC0.out); rintro e w7 ⟨g452, rfl, hi, hb, hb2⟩; refine ⟨_, rfl, ?_⟩; replace HB := Z (hb); have HI452 := Z (hi); have NB452_448 := Z (IsS97.ne_blk hi (blk_below (g := gb448) (o := .cells #[.slice none 0 0] 34 (0, 0)) (Z11 BK448) hb2) (by decide)); have NB448_452 := Z (Ne.symm (IsS97.ne_blk hi (blk_below (g := gb448) (o := .cells #[.slice none 0 0] 34 (0, 0)) (Z11 BK448) hb2) (by decide))); replace BK448 := Z (blk_below (g := gb448) (o := .cells #[.slice none 0 0] 34 (0, 0)) (Z11 BK448) hb2); (try clear hb); (try clear hb2); (try clear hk); (try clear hi)) | ((with_reducible refine gate_callee (f := 72) rfl ?_); refine goesL_ (some 11) rfl rfl Try.func72 Z9 rfl #[.pointer (some ⟨g452, 0, none⟩)] rfl Z12 ?_; (with_reducible refine (spec_l05Any.calls k g452 t449 t450 t451 t453 t456 t457 w _ ?side1 ?side2 A3.out).mono ?_); (case side1 => exact Z22); (case side2 => exact Z23); rintro e w8 ⟨v454, rfl, ho0, hi, hb, hk⟩; refine ⟨_, rfl, ?_⟩; replace BK448 := Z (KeepBut.blk hk (g' := gb448) (o := .cells #[.slice none 0 0] 34 (0, 0)) (Z11 BK448) NB448_452.out (by simp)); have HO455 := Z (Kd.R_lower ho0 (below_size Z23)); replace HB := Z (hb); replace HI452 := Z (hi); (try clear hb); (try clear hb2); (try clear hk); (try clear hi); (try clear ho0)) | ((with_reducible refine gate_dst (N := 6) rfl ?_); refine box_event (by rfl) (N := 6) (by rfl) (cs := #[.slice none 0 0]) (t := 34) Z4 ?_; intro gb458 hg w9 hbox hb; replace HO455 := Z (Kd.R_below (Z7 HO455) hb); have BK458 := Z (hbox); have GW458 := Z ((by rw [hg]; exact (below_size Z23) : w.heap.size ≤ gb458)); have GE458 := Z ((by rw [hg]; exact (below_size Z23) : w.heap.size ≤ gb458)); replace HB := Z (below_step Z23 hb); have NB448_458 := Z ((by rw [hg]; exact Nat.ne_of_lt (blk_lt (g := gb448) (o := .cells #[.slice none 0 0] 34 (0, 0)) (Z11 BK448)) : gb448 ≠ gb458)); have NB458_448 := Z ((by rw [hg]; exact Nat.ne_of_gt (blk_lt (g := gb448) (o := .cells #[.slice none 0 0] 34 (0, 0)) (Z11 BK448)) : gb458 ≠ gb448)); replace BK448 := Z (blk_below (g := gb448) (o := .cells #[.slice none 0 0] 34 (0, 0)) (Z11 BK448) hb); have NB452_458 := Z ((by rw [hg]; exact Nat.ne_of_lt (IsS97.lt (show IsS97 w _ g452 t449 t456 t457 from Z22)) : g452 ≠ gb458)); have NB458_452 := Z ((by rw [hg]; exact Nat.ne_of_gt (IsS97.lt (show IsS97 w _ g452 t449 t456 t457 from Z22)) : gb458 ≠ g452)); replace HI452 := Z (IsS97.below Z22 hb); clear hb hbox hg; obtain ⟨Ao10, co10, eo10⟩ := Kd.R_slice HO455.out; subst eo10; have hnb11 := NB458_448.out; have hnc11 := NB448_458.out; have hnb12 := NB458_452.out; have hnc12 := NB452_458.out; have hcz13_0 : w9.cell? ⟨gb458, 0, none⟩ = some (.slice none 0 0) := (blk_cell BK458.out 0).trans rfl; have hfz13_0 := blk_frozen BK458.out 0) | ((with_reducible refine gate_callee (f := 73) rfl ?_); refine goesL_ (some 13) rfl rfl Try.func73 Z9 rfl #[.pointer (some ⟨g452, 0, none⟩), .int .i64 5] rfl Z12 ?_; (with_reducible refine (spec_l01Below.calls g452 t449 t456 t457 5 t459 t460 t461 w _ ?side1 ?side2 A4.out).mono ?_); (case side1 => exact Z24); (case side2 => exact Z25); rintro e w14 ⟨rfl, hi, hb, hk⟩; refine ⟨_, rfl, ?_⟩; replace BK448 := Z (KeepBut.blk hk (g' := gb448) (o := .cells #[.slice none 0 0] 34 (0, 0)) (by (with_reducible repeat (first | refine blk_drewN ?_ _ | refine blk_drew ?_ | refine blk_alloc ?_ _)); refine blk_far ?_ NB448_458.out _; (with_reducible repeat (first | refine blk_drewN ?_ _ | refine blk_drew ?_ | refine blk_alloc ?_ _)); exact BK448.out) NB448_452.out (by simp)); replace HO455 := Z (Kd.R_mono (Kd.R_keep (IsS97.apart (show IsS97 w _ g452 t449 t456 t457 from Z24) (by (with_reducible repeat (first | apply Kd.R_alloc | apply Kd.R_drewN | apply Kd.R_drew)); exact (Kd.R_mono (Kd.R_far (p := ⟨gb458, 0, none⟩) (Kd.R_types HO455.out BK458.out (by decide)) (fun _ hk => hk.2) (.slice Ao10 t453.length co10)) (fun _ h_ => h_.1))) (by decide)) hk (fun _ h => h.2)) (fun _ h => h.1)); replace BK458 := Z (KeepBut.blk hk (g' := gb458) (o := .cells #[.slice Ao10 t453.length co10] 34 (0, 0)) (Z14 BK458) NB458_452.out (by simp)); replace HB := Z (hb); replace HI452 := Z (hi); (try clear hb); (try clear hb2); (try clear hk); (try clear hi)))
 have n0_ := Z (Kd.R_drew HO455.out)
 have n1_ := Z (blk_drew BK448.out)
 have n2_ := Z (blk_drew BK458.out)
 have n3_ := Z (IsS97.drew HI452.out)
 have n4_ := Z (below_drew1 HB.out)
 clear HO455
 clear BK448
 clear BK458
 clear HI452
 clear HB
 have HO455 := n0_
 have BK448 := n1_
 have BK458 := n2_
 have HI452 := n3_
 have HB := n4_
 clear n0_ n1_ n2_ n3_ n4_
 refine start_ (n := 7) (S := fun w' => w'.cell? ⟨gb458, 0, none⟩ = some (.slice Ao10 t453.length co10)) (ds := []) #[false, false, false, false, false, false, false] Z9 rfl rfl ((blk_cell BK458.out 0).trans rfl) (fun hHeld => ?_)
 generalize w14.drew = w15 at HO455 BK448 BK458 HI452 HB hHeld ⊢
 refine pure_ (i := 1) (N := some 16) (v := ?_) (a' := ?_) #[false, true, false, false, false, false, false] rfl rfl Z9 (fun _ _ _ h => h) (Or.inl ⟨by rfl, ?_⟩) ?_ ?_
 rotate_left
 ·intro w'
  go_simp
  with_reducible rfl
 rotate_left
 ·simp only [Act.put, List.setIfInBounds_toArray, List.set_cons_zero, List.set_cons_succ, i64_w, i32_w]
  rfl
 refine pure_ (i := 2) (N := some 17) (v := ?_) (a' := ?_) #[false, true, true, false, false, false, false] rfl rfl Z9 (fun _ _ _ h => h) (Or.inl ⟨by rfl, ?_⟩) ?_ ?_
 rotate_left
 ·intro w'
  go_simp
  with_reducible rfl
 rotate_left
 ·simp only [Act.put, List.setIfInBounds_toArray, List.set_cons_zero, List.set_cons_succ, i64_w, i32_w]
  rfl
 refine take_ (i := 0) (N := some 15) (v := ?_) (a' := ?_) #[true, true, true, false, false, false, false] rfl rfl Z9 (fun _ _ _ h => h) (Or.inl ⟨by rfl, ?_⟩) hHeld ?_ ?_
 rotate_left
 ·intro w' s0
  go_simp
  with_reducible rfl
 rotate_left
 ·simp only [Act.put, List.setIfInBounds_toArray, List.set_cons_zero, List.set_cons_succ, i64_w, i32_w]
  rfl
 refine one_ (i := 3) (N := some 18) #[true, true, true, true, false, false, false] rfl rfl Z9 (by decide) (fun K hK => ?_)
 refine goes_ Try.func58 Z9 rfl #[.pointer (some ⟨g452, 0, none⟩)] (by rfl) rfl rfl Z12 ?_
 with_reducible refine (spec_l04Cells.calls k g452 t449 t460 t461 t462 t465 t466 w _ ?side1 ?side2 A5.out).mono ?_
 (case side1 => exact Z24)
 (case side2 => exact Z25)
 rintro e w16 ⟨v463, rfl, ho0, hi, hb, hk⟩
 refine ⟨_, rfl, ?_⟩
 have n0_ := Z (KeepBut.blk hk (g' := gb448) (o := .cells #[.slice none 0 0] 34 (0, 0)) (Z11 BK448) NB448_452.out (by simp))
 have n1_ := Z (Kd.R_mono (Kd.R_told (Kd.R_oldK (IsS97.apart (show IsS97 w _ g452 t449 t460 t461 from Z24) (Z7 HO455) (by decide)) hk) (Kd.R_base ho0)) (fun _ h_ => h_.1))
 have n2_ := Z (KeepBut.blk hk (g' := gb458) (o := .cells #[.slice Ao10 t453.length co10] 34 (0, 0)) (Z11 BK458) NB458_452.out (by simp))
 have n3_ := Z (Kd.R_lower (Kd.R_new' ho0 (Kd.R_lt (Z7 HO455))) (below_size Z25))
 have n4_ := Z (hb)
 have n5_ := Z (hi)
 clear BK448
 clear HO455
 clear BK458
 clear HB
 clear HI452
 have BK448 := n0_
 have HO455 := n1_
 have BK458 := n2_
 have HO464 := n3_
 have HB := n4_
 have HI452 := n5_
 clear n0_ n1_ n2_ n3_ n4_ n5_
 (try clear hb)
 (try clear hb2)
 (try clear hk)
 (try clear hi)
 (try clear ho0)
 refine hK.out _ _ ((blk_cell BK458.out 0).trans rfl) (fun hHeld => ?_)
 clear hK K
 refine norm_ (a' := ?_) ?_ ?_
 rotate_left
 ·show Act.put _ (some 18) _ = _
  simp only [Act.put, List.setIfInBounds_toArray, List.set_cons_zero, List.set_cons_succ, i64_w, i32_w]
  rfl
 refine one_ (i := 4) (N := none) #[true, true, true, true, true, false, false] rfl rfl Z9 (by decide) (fun K hK => ?_)
 have hs17 : w16.cell? ⟨gb448, 0, none⟩ = some (.slice none 0 0) := (blk_cell BK448.out 0).trans rfl
 have hfs17 := blk_frozen BK448.out 0
 have hns17_1 := NB458_448.out
 have hms17_1 := NB448_458.out
 refine skip_ (w1 := ?_) (by rfl) rfl ?_ ?_
 rotate_left
 ·go_simp
  rfl
 refine hK.out _ _ (((cell_far (p := ⟨gb448, _, none⟩) NB458_448.out _).trans (hHeld))) (fun hHeld => ?_)
 clear hK K
 refine pure_ (i := 5) (N := some 3) (v := ?_) (a' := ?_) #[true, true, true, true, true, true, false] rfl rfl Z9 (fun _ _ _ h => h) (Or.inl ⟨by rfl, ?_⟩) ?_ ?_
 rotate_left
 ·intro w'
  go_simp
  with_reducible rfl
 rotate_left
 ·simp only [Act.put, List.setIfInBounds_toArray, List.set_cons_zero, List.set_cons_succ, i64_w, i32_w]
  rfl
 refine pure_ (i := 6) (N := some 4) (v := ?_) (a' := ?_) #[true, true, true, true, true, true, true] rfl rfl Z9 (fun _ _ _ h => h) (Or.inl ⟨by rfl, ?_⟩) ?_ ?_
 rotate_left
 ·intro w'
  go_simp
  with_reducible rfl
 rotate_left
 ·simp only [Act.put, List.setIfInBounds_toArray, List.set_cons_zero, List.set_cons_succ, i64_w, i32_w]
  rfl
 refine done_ Z9 ?_
 try go_wp2
 refine bodyPost_ret (results_ctt rfl _ _ gb448 34 #[.slice Ao10 t453.length co10] (0, 0) _ rfl (Z14 BK448) Try.underlying34 rfl Z9) rfl ?_
 exact ⟨_, _, Z8, by (with_reducible repeat (first | apply Kd.R_alloc | apply Kd.R_drewN | apply Kd.R_drew)); exact Kd.R_mono (Kd.R_far (p := ⟨gb448, 0, none⟩) (Kd.R_types HO455.out BK448.out (by decide)) (fun _ hk => hk.2) (.slice Ao10 t453.length co10)) (fun _ hk => hk.1.2), by (with_reducible repeat (first | apply Kd.R_alloc | apply Kd.R_drewN | apply Kd.R_drew)); exact Kd.R_mono (Kd.R_far (p := ⟨gb448, 0, none⟩) (Kd.R_types HO464.out BK448.out (by decide)) (fun _ hk => hk.2) (.slice Ao10 t453.length co10)) (fun _ hk => hk.1.2), Z25⟩

/-! ### spec_StoreOk: function 104 -/
def spec_StoreOk.f (l0_0 : List Int) : Option (Bool) := if ((l0_0.length : Int) % 64) = 0 then (some (decide ((l0_0.length : Int) ≤ 768))) else (some false)
set_option maxHeartbeats 8000000 in
set_option maxRecDepth 100000 in
theorem spec_StoreOk.calls (A0_0 : Option Addr) (c0_0 : Nat) (l0_0 : List Int) (r : Bool) (w : World) (hr0_0 : Kd.C (Kd.int .u32) w A0_0 l0_0.length l0_0) (hc0_0 : l0_0.length ≤ c0_0) (h : spec_StoreOk.f l0_0 = some r) :
  Calls Try.prog 104 #[.agg #[.slice A0_0 l0_0.length c0_0]] w fun e w' => e = .returned (.bool r) ∧ Below w.heap.size w w' := by
 have hu34 := Try.underlying34
 have HR0_0 := Aside0.mk hr0_0
 have HC0_0 := Aside0.mk hc0_0
 clear hr0_0 hc0_0
 have HB := Z (Below.refl w.heap.size w)
 have H : (if ((l0_0.length : Int) % 64) = 0 then (some (decide ((l0_0.length : Int) ≤ 768))) else (some false)) = some r := h
 clear h
 by_cases c2 : ((l0_0.length : Int) % 64) = 0
 ·rw [if_pos c2] at H
  have c2b0 : (((l0_0.length : Int) % 64) == 0) = true := beq_iff_eq.mpr c2
  have c2b1 : (((l0_0.length : Int) % 64) != 0) = false := bne_eq_false_iff_eq.mpr c2
  clear c2
  obtain rfl := Option.some.inj H
  go_enter Try.func104, Try.ntmps104
  go_wp2_with (first | ((with_reducible refine gate_dst (N := 1) rfl ?_); (try (refine gate_guard (by rfl) ?_; dsimp only)); refine box_event (by rfl) (N := 1) (by rfl) (cs := #[.slice A0_0 l0_0.length c0_0]) (t := 34) Z4 ?_; intro gb467 hg w3 hbox hb; have BK467 := Z (hbox); have GW467 := Z ((Z54 : w.heap.size ≤ gb467)); have GE467 := Z ((Z54 : w.heap.size ≤ gb467)); replace HB := Z (below_step Z33 hb); clear hb hbox hg; have hcz4_0 : w3.cell? ⟨gb467, 0, none⟩ = some (.slice A0_0 l0_0.length c0_0) := (blk_cell BK467.out 0).trans rfl; have hfz4_0 := blk_frozen BK467.out 0))
  go_ret
  exact ⟨Z8, Z33⟩
 ·rw [if_neg c2] at H
  have c2b0 : (((l0_0.length : Int) % 64) == 0) = false := beq_eq_false_iff_ne.mpr c2
  have c2b1 : (((l0_0.length : Int) % 64) != 0) = true := bne_iff_ne.mpr c2
  obtain rfl := Option.some.inj H
  go_enter Try.func104, Try.ntmps104
  go_wp2_with (first | ((with_reducible refine gate_dst (N := 1) rfl ?_); (try (refine gate_guard (by rfl) ?_; dsimp only)); refine box_event (by rfl) (N := 1) (by rfl) (cs := #[.slice A0_0 l0_0.length c0_0]) (t := 34) Z4 ?_; intro gb467 hg w5 hbox hb; have BK467 := Z (hbox); have GW467 := Z ((Z54 : w.heap.size ≤ gb467)); have GE467 := Z ((Z54 : w.heap.size ≤ gb467)); replace HB := Z (below_step Z33 hb); clear hb hbox hg; have hcz6_0 : w5.cell? ⟨gb467, 0, none⟩ = some (.slice A0_0 l0_0.length c0_0) := (blk_cell BK467.out 0).trans rfl; have hfz6_0 := blk_frozen BK467.out 0))
  go_ret
  exact ⟨Z8, Z33⟩

/-! ### spec_l05Has: function 76 -/
def spec_l05Has.f (l0_0 : List Int) (a1 : Int) : Option (Bool) := (spec_StoreOk.f l0_0).bind fun t469 => (if t469 = true then (if a1 ≥ 0 then (some (decide (a1 < (wrap64 ((l0_0.length : Int) / 64))))) else (some false)) else (some false))
set_option maxHeartbeats 8000000 in
set_option maxRecDepth 100000 in
theorem spec_l05Has.calls (A0_0 : Option Addr) (c0_0 : Nat) (l0_0 : List Int) (a1 : Int) (r : Bool) (w : World) (hr0_0 : Kd.C (Kd.int .u32) w A0_0 l0_0.length l0_0) (hc0_0 : l0_0.length ≤ c0_0) (h : spec_l05Has.f l0_0 a1 = some r) :
  Calls Try.prog 76 #[.agg #[.slice A0_0 l0_0.length c0_0], .int .i64 a1] w fun e w' => e = .returned (.bool r) ∧ Below w.heap.size w w' := by
 have hu34 := Try.underlying34
 have HR0_0 := Aside0.mk hr0_0
 have HC0_0 := Aside0.mk hc0_0
 clear hr0_0 hc0_0
 have HB := Z (Below.refl w.heap.size w)
 have H : ((spec_StoreOk.f l0_0).bind fun t469 => (if t469 = true then (if a1 ≥ 0 then (some (decide (a1 < (wrap64 ((l0_0.length : Int) / 64))))) else (some false)) else (some false))) = some r := h
 clear h
 replace H := Option.bind_eq_some_iff.mp H
 obtain ⟨t469, A30, H⟩ := H
 replace H : (if t469 = true then (if a1 ≥ 0 then (some (decide (a1 < (wrap64 ((l0_0.length : Int) / 64))))) else (some false)) else (some false)) = some r := H
 have A3 := Aside0.mk A30
 clear A30
 by_cases c4 : t469 = true
 ·subst c4
  have H1 : (if a1 ≥ 0 then (some (decide (a1 < (wrap64 ((l0_0.length : Int) / 64))))) else (some false)) = some r := Z10
  clear H
  have H := H1
  clear H1
  by_cases c5 : a1 ≥ 0
  ·rw [if_pos c5] at H
   have c5b0 : decide (0 ≤ a1) = true := decide_eq_true c5
   clear c5
   obtain rfl := Option.some.inj H
   go_enter Try.func76, Try.ntmps76
   go_wp2_with (first | ((with_reducible refine gate_dst (N := 2) rfl ?_); (try (refine gate_guard (by rfl) ?_; dsimp only)); refine box_event (by rfl) (N := 2) (by rfl) (cs := #[.slice A0_0 l0_0.length c0_0]) (t := 34) Z4 ?_; intro gb468 hg w6 hbox hb; have BK468 := Z (hbox); have GW468 := Z ((Z54 : w.heap.size ≤ gb468)); have GE468 := Z ((Z54 : w.heap.size ≤ gb468)); replace HB := Z (below_step Z33 hb); clear hb hbox hg; have hcz7_0 : w6.cell? ⟨gb468, 0, none⟩ = some (.slice A0_0 l0_0.length c0_0) := (blk_cell BK468.out 0).trans rfl; have hfz7_0 := blk_frozen BK468.out 0) | ((with_reducible refine gate_callee (f := 104) rfl ?_); refine goesL_ (some 6) rfl rfl Try.func104 Z9 rfl #[.agg #[.slice A0_0 l0_0.length c0_0]] rfl Z12 ?_; (with_reducible refine (spec_StoreOk.calls _ _ l0_0 true _ ?side1 ?side2 A3.out).mono ?_); (case side1 => exact (Z6 HR0_0)); (case side2 => exact HC0_0.out); rintro e w8 ⟨rfl, hb⟩; refine ⟨_, rfl, ?_⟩; replace BK468 := Z (blk_below (g := gb468) (o := .cells #[.slice A0_0 l0_0.length c0_0] 34 (0, 0)) (Z11 BK468) hb); replace HB := Z (below_step Z33 hb); (try clear hb); (try clear hb2); (try clear hk); (try clear hi); have hcz9_0 : w8.cell? ⟨gb468, 0, none⟩ = some (.slice A0_0 l0_0.length c0_0) := (blk_cell BK468.out 0).trans rfl; have hfz9_0 := blk_frozen BK468.out 0))
   go_ret
   exact ⟨Z8, Z33⟩
  ·rw [if_neg c5] at H
   have c5b0 : decide (0 ≤ a1) = false := decide_eq_false c5
   clear c5
   obtain rfl := Option.some.inj H
   go_enter Try.func76, Try.ntmps76
   go_wp2_with (first | ((with_reducible refine gate_dst (N := 2) rfl ?_); (try (refine gate_guard (by rfl) ?_; dsimp only)); refine box_event (by rfl) (N := 2) (by rfl) (cs := #[.slice A0_0 l0_0.length c0_0]) (t := 34) Z4 ?_; intro gb468 hg w10 hbox hb; have BK468 := Z (hbox); have GW468 := Z ((Z54 : w.heap.size ≤ gb468)); have GE468 := Z ((Z54 : w.heap.size ≤ gb468)); replace HB := Z (below_step Z33 hb); clear hb hbox hg; have hcz11_0 : w10.cell? ⟨gb468, 0, none⟩ = some (.slice A0_0 l0_0.length c0_0) := (blk_cell BK468.out 0).trans rfl; have hfz11_0 := blk_frozen BK468.out 0) | ((with_reducible refine gate_callee (f := 104) rfl ?_); refine goesL_ (some 6) rfl rfl Try.func104 Z9 rfl #[.agg #[.slice A0_0 l0_0.length c0_0]] rfl Z12 ?_; (with_reducible refine (spec_StoreOk.calls _ _ l0_0 true _ ?side1 ?side2 A3.out).mono ?_); (case side1 => exact (Z6 HR0_0)); (case side2 => exact HC0_0.out); rintro e w12 ⟨rfl, hb⟩; refine ⟨_, rfl, ?_⟩; replace BK468 := Z (blk_below (g := gb468) (o := .cells #[.slice A0_0 l0_0.length c0_0] 34 (0, 0)) (Z11 BK468) hb); replace HB := Z (below_step Z33 hb); (try clear hb); (try clear hb2); (try clear hk); (try clear hi)))
   go_ret
   exact ⟨Z8, Z33⟩
 ·replace c4 := Bool.eq_false_iff.mpr c4
  subst c4
  have H1 : (some false) = some r := by rw [if_neg (show ¬ (false = true) by decide)] at H; exact H
  clear H
  have H := H1
  clear H1
  obtain rfl := Option.some.inj H
  go_enter Try.func76, Try.ntmps76
  go_wp2_with (first | ((with_reducible refine gate_dst (N := 2) rfl ?_); (try (refine gate_guard (by rfl) ?_; dsimp only)); refine box_event (by rfl) (N := 2) (by rfl) (cs := #[.slice A0_0 l0_0.length c0_0]) (t := 34) Z4 ?_; intro gb468 hg w13 hbox hb; have BK468 := Z (hbox); have GW468 := Z ((Z54 : w.heap.size ≤ gb468)); have GE468 := Z ((Z54 : w.heap.size ≤ gb468)); replace HB := Z (below_step Z33 hb); clear hb hbox hg; have hcz14_0 : w13.cell? ⟨gb468, 0, none⟩ = some (.slice A0_0 l0_0.length c0_0) := (blk_cell BK468.out 0).trans rfl; have hfz14_0 := blk_frozen BK468.out 0) | ((with_reducible refine gate_callee (f := 104) rfl ?_); refine goesL_ (some 6) rfl rfl Try.func104 Z9 rfl #[.agg #[.slice A0_0 l0_0.length c0_0]] rfl Z12 ?_; (with_reducible refine (spec_StoreOk.calls _ _ l0_0 false _ ?side1 ?side2 A3.out).mono ?_); (case side1 => exact (Z6 HR0_0)); (case side2 => exact HC0_0.out); rintro e w15 ⟨rfl, hb⟩; refine ⟨_, rfl, ?_⟩; replace BK468 := Z (blk_below (g := gb468) (o := .cells #[.slice A0_0 l0_0.length c0_0] 34 (0, 0)) (Z11 BK468) hb); replace HB := Z (below_step Z33 hb); (try clear hb); (try clear hb2); (try clear hk); (try clear hi)))
  go_ret
  exact ⟨Z8, Z33⟩

end Go.Proofs.Ytkkiibjnpkjijaa.QFnBlocks
