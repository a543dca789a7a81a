/-
Plain functions for the Go functions that a law reaches, each with a proof that the translation's call comes to just that; no conditions beyond those written in each.
-/
import Derived.Test.YtfjmpdcflnaogaaGreatDoorSFnExactImport
import Derived.Test.YtfjmpdcflnaogaaGreatDoorQFnExactImportx5
import Derived.Test.YtfjmpdcflnaogaaGreatDoorQFnExactImportx8
import Derived.Test.YtfjmpdcflnaogaaGreatDoorQFnExactImportx9
namespace Go.Proofs.YtfjmpdcflnaogaaGreatDoor.QFnExactImport
open Go.RowKit Go.Proofs.YtfjmpdcflnaogaaGreatDoorW.PrintWords Go.Proofs.YtfjmpdcflnaogaaGreatDoorW.PrintLast Go.Proofs.YtfjmpdcflnaogaaGreatDoorW.PrintMore
attribute [local go_sem] max2_int min2_int max_two min_two max_three min_three max_four min_four   -- for this text's walks alone
set_option linter.unusedVariables false
set_option maxHeartbeats 8000000
set_option maxRecDepth 100000
set_option linter.unusedSimpArgs false

theorem Yk10 {X W w1 : World} {g : Nat} {o : Obj} (h : Aside0 (X.heap[g]? = some o)) (hb : Below W.heap.size W w1) (e : X.heap[g]? = some o → W.heap[g]? = some o := by intro h_; repeat (first | (with_reducible exact h_) | (with_reducible first | refine blk_drewN ?_ _ | refine blk_drew ?_ | refine blk_alloc ?_ _) | refine blk_far ?_ (Aside0.out (by assumption)) _ | exact h_)) : w1.heap[g]? = some o := blk_below (e h.out) hb
def spec_Import.l0 : Nat → List (S68) → List (S46) → Int → Option (List Int × Int × Int × Int)
 | 0, _, _, _ => none
 | k + 1, x4, x5, x6 => if x6 < (x4.length : Int) then (if 0 ≤ x6 then ((spec_ReadItem.f k ((rd_T68 x4 x6).f0)).bind fun bt663 => (if bt663.2.2.2.2.2 = true then (if x5.length < 3518437208883 then ((some (x5 ++ [(⟨bt663.1, bt663.2.1, bt663.2.2.1, bt663.2.2.2.1, bt663.2.2.2.2.1⟩ : S46)] : List (S46))).bind fun y670 => ((spec_Unparse.f k y670).bind fun bt673 => (if bt673.2 = true then (spec_Import.l0 k x4 y670 (wrap64 (x6 + 1))) else (some ((([] : List Int)), 3, (rd_T68 x4 x6).f1, (rd_T68 x4 x6).f2))))) else (none)) else (some ((([] : List Int)), 2, (rd_T68 x4 x6).f1, (rd_T68 x4 x6).f2)))) else (none)) else ((spec_ListOk.f k x5).bind fun t683 => (if t683 = true then ((spec_Unparse.f k x5).bind fun bt684 => (some (bt684.1, 0, 0, 0))) else (if 0 ≤ (wrap64 ((x4.length : Int) - 1)) then (if (wrap64 ((x4.length : Int) - 1)) < (x4.length : Int) then (some ((([] : List Int)), 4, (rd_T68 x4 (wrap64 ((x4.length : Int) - 1))).f1, (rd_T68 x4 (wrap64 ((x4.length : Int) - 1))).f2)) else (none)) else (none))))
def spec_Import.f (k : Nat) (a0 : ByteArray) : Option (List Int × Int × Int × Int) := if (a0.size : Int) > 6000 then (some ((([] : List Int)), 1, 0, 0)) else ((spec_l06Words.f k a0).bind fun t655 => (spec_Import.l0 k t655 (([] : List (S46))) 0))
def spec_Import.T11 : Bool × List (List Nat × List Nat) := (true, [([], []), ([], []), ([1], [1]), ([], []), ([3], [3]), ([2, 4], [2, 4]), ([0, 0], [0]), ([5, 6, 0, 1, 2, 3, 4, 5, 6], [5])])
def spec_Import.B11 : List Nat := [0, 0, 2, 0, 8, 30, 1, 127]
theorem spec_Import.tab11 : rtab .any (opsOf Tryz.f12 11) = spec_Import.T11 := Z0
theorem spec_Import.bits11 : waitsOk spec_Import.T11.2 spec_Import.B11 = true := Z0
def spec_Import.T15 : Bool × List (List Nat × List Nat) := (true, [([], []), ([], []), ([1], [1]), ([], []), ([3], [3]), ([2, 4], [2, 4]), ([0, 0], [0]), ([5, 6, 0, 1, 2, 3, 4, 5, 6], [5])])
def spec_Import.B15 : List Nat := [0, 0, 2, 0, 8, 30, 1, 127]
theorem spec_Import.tab15 : rtab .any (opsOf Tryz.f12 15) = spec_Import.T15 := Z0
theorem spec_Import.bits15 : waitsOk spec_Import.T15.2 spec_Import.B15 = true := Z0
def spec_Import.T18 : Bool × List (List Nat × List Nat) := (true, [([], []), ([], []), ([1], [1]), ([], []), ([3], [3]), ([2, 4], [2, 4]), ([0, 0], [0]), ([5, 6, 0, 1, 2, 3, 4, 5, 6], [5])])
def spec_Import.B18 : List Nat := [0, 0, 2, 0, 8, 30, 1, 127]
theorem spec_Import.tab18 : rtab .any (opsOf Tryz.f12 18) = spec_Import.T18 := Z0
theorem spec_Import.bits18 : waitsOk spec_Import.T18.2 spec_Import.B18 = true := Z0
theorem spec_Import.calls (k : Nat) (a0 : ByteArray) (r1 : List Int) (r2 : Int) (r3 : Int) (r4 : Int) (w : World) (h : spec_Import.f k a0 = some (r1, r2, r3, r4)) :
  Calls Tryz.prog 12 #[.string a0] w fun e w' => ∃ v0_ : Value, e = .returned (.tuple #[v0_, .agg #[.int .i64 r2, .int .i64 r3, .int .i64 r4]]) ∧ Kd.R (Kd.int .u32) 44 w' w.heap.size (fun _ => True) v0_ r1 ∧ Below w.heap.size w w' := by
 have hu28 := Tryz.underlying28; have hu68 := Tryz.underlying68; have hu46 := Tryz.underlying46; have HB := Z (Below.refl w.heap.size w); unfold spec_Import.f at h; have H := h; clear h; replace H := Yi H; rcases H with ⟨c2, H⟩ | ⟨c2, H⟩
 ·have c2b0 : decide (6000 < (a0.size : Int)) = true := decide_eq_true c2; have c2b1 : decide (6000 < a0.size) = true := decide_eq_true (by omega); clear c2; obtain ⟨y652, hy652⟩ : ∃ y_ : List Int, y_ = (([] : List Int)) := ⟨_, rfl⟩; replace H : (some (y652, 1, 0, 0)) = some (r1, r2, r3, r4) := Yy hy652 H; have Ny652 := Aside0.mk hy652; clear hy652; simp only [Option.some.injEq, Prod.mk.injEq] at H; obtain ⟨rfl, rfl, rfl, rfl⟩ := H; go_enter Tryz.func12, Tryz.ntmps12
  go_wp2_with (first | ((with_reducible refine gate_dst (N := 3) rfl ?_); refine box_event (by rfl) (N := 3) (by rfl) (cs := #[.int .i64 0, .int .i64 0, .int .i64 0]) (t := 28) Z4 ?_; intro gb651 hg w3 hbox hb; have BK651 := Z (hbox); have GW651 := Z ((Z124 : w.heap.size ≤ gb651)); have GE651 := Z ((Z124 : w.heap.size ≤ gb651)); replace HB := Z (below_step Z90 hb); clear hb hbox hg) | ((with_reducible refine gate_dst (N := 18) rfl ?_); refine Kd.R_lit (Kd.int .u32) _ 44 (by rfl) (N := 18) (by rfl) (xs := ([] : List Int)) (inner := []) (ok := fun _ => True) (okp := fun _ => True) Z4 (Reps.none _ _) (fun _ hk => hk) trivial (Below.refl _ _) (Nat.le_refl _) (by simp) ?_; intro v653 w4 ho5 hb hg_ hnew_; clear hg_ hnew_; (first | rw [← Ny652.out] at ho5 | (simp only [Int.reduceToNat] at ho5; rw [← Ny652.out] at ho5)); have HO654 := Z (Kd.R_lower ho5 (below_size Z90)); replace BK651 := Z (Yk10 BK651 hb); replace HB := Z (below_step Z90 hb); clear hb ho5; have hcz6 := Yb3 BK651.out))
  refine bodyPost_ret (results_tc rfl _ _ gb651 28 #[.int .i64 1, .int .i64 0, .int .i64 0] (0, 0) _ rfl (Z43 BK651) Tryz.underlying28 rfl Z0) rfl ?_
  exact ⟨_, Z91, by (with_reducible repeat (first | apply Kd.R_alloc | apply Kd.R_drewN | apply Kd.R_drew)); exact Kd.R_mono (Kd.R_far (p := ⟨gb651, 2, none⟩) (Kd.R_far (p := ⟨gb651, 1, none⟩) (Kd.R_far (p := ⟨gb651, 0, none⟩) (Kd.R_types HO654.out BK651.out (by decide)) (fun _ hk => hk.2) (.int .i64 1)) (fun _ hk => hk.2) (.int .i64 0)) (fun _ hk => hk.2) (.int .i64 0)) (fun _ hk => trivial), Z90⟩
 have c2b0 : decide (6000 < (a0.size : Int)) = false := decide_eq_false c2; have c2b1 : decide (6000 < a0.size) = false := decide_eq_false (by omega); clear c2; replace H := Yd H; obtain ⟨t655, A7, H⟩ := H; (try dsimp only at H); obtain ⟨y658, hy658⟩ : ∃ y_ : List (S46), y_ = (([] : List (S46))) := ⟨_, rfl⟩; replace H : (spec_Import.l0 k t655 y658 0) = some (r1, r2, r3, r4) := Yy hy658 H; have Ny658 := Aside0.mk hy658; clear hy658; have H' := Aside0.mk H; clear H; go_enter Tryz.func12, Tryz.ntmps12
 go_wp2_with (first | ((with_reducible refine gate_dst (N := 3) rfl ?_); refine box_event (by rfl) (N := 3) (by rfl) (cs := #[.int .i64 0, .int .i64 0, .int .i64 0]) (t := 28) Z4 ?_; intro gb651 hg w8 hbox hb; have BK651 := Z (hbox); have GW651 := Z ((Z124 : w.heap.size ≤ gb651)); have GE651 := Z ((Z124 : w.heap.size ≤ gb651)); replace HB := Z (below_step Z90 hb); clear hb hbox hg) | ((with_reducible refine gate_callee (f := 32) rfl ?_); refine goesL_ (some 21) rfl rfl Tryz.func32 Z0 rfl #[.string a0] rfl Z8 ?_; (with_reducible refine (spec_l06Words.calls k a0 t655 _ A7.out).mono ?_); rintro e w9 ⟨v656, rfl, ho0, hb⟩; refine ⟨_, rfl, ?_⟩; have HO657 := Z (Kd.R_lower ho0 (below_size Z90)); replace BK651 := Z (Yk10 BK651 hb); replace HB := Z (below_step Z90 hb); (try clear hb); (try clear hb2); (try clear hk); (try clear hi); (try clear ho0)) | ((with_reducible refine gate_dst (N := 22) rfl ?_); refine Kd.R_lit k46 _ 46 (by rfl) (N := 22) (by rfl) (xs := ([] : List (S46))) (inner := []) (ok := fun _ => True) (okp := fun _ => True) Z4 (Reps.none _ _) (fun _ hk => hk) trivial (Below.refl _ _) (Nat.le_refl _) (by simp) ?_; intro v659 w10 ho11 hb hg_ hnew_; clear hg_ hnew_; (first | rw [← Ny658.out] at ho11 | (simp only [Int.reduceToNat] at ho11; rw [← Ny658.out] at ho11)); replace HO657 := Z (Kd.R_below (Z6 HO657) hb); have HO660 := Z (Kd.R_lower ho11 (below_size Z90)); replace BK651 := Z (Yk10 BK651 hb); replace HB := Z (below_step Z90 hb); clear hb ho11))
 go_loopg [5, 6] k (fun kq v5 v6 w' => ∃ (x5_1 : List (S46)) (x6_1 : Int) (x652000_1 : Int) (x652001_1 : Int) (x652002_1 : Int), v6 = .int .i64 x6_1 ∧ Aside0 (spec_Import.l0 kq t655 x5_1 x6_1 = some (r1, r2, r3, r4)) ∧ Aside0 (kq ≤ k) ∧ Aside0 (Kd.R k68 68 w' w.heap.size (fun _ => True) v656 t655) ∧ Aside0 (Kd.R k46 46 w' w.heap.size (fun _ => True) v5 x5_1) ∧ Aside0 (w'.heap[gb651]? = some (.cells #[.int .i64 x652000_1, .int .i64 x652001_1, .int .i64 x652002_1] 28 (0, 0))) ∧ Aside0 (Below w.heap.size w w'))
 case atStart => exact ⟨(y658), (0), (0), (0), (0), Z2, H', ⟨Nat.le_refl _⟩, ⟨(Z6 HO657)⟩, ⟨(Z6 HO660)⟩, ⟨(Z15 BK651)⟩, ⟨Z90⟩⟩
 case round =>
  clear H'; (try clear c1); (try clear c2); (try clear c2b0); (try clear c2b1); (try clear p2); (try clear c3); (try clear hcz6); obtain ⟨x5_1, x6_1, x652000_1, x652001_1, x652002_1, rfl, HA, HK1, HO_4, HO_5, BK651, HB⟩ := hrel
  cases gk with
  | zero => exact absurd HA.out (by simp [spec_Import.l0])
  | succ k1 =>
   have H := HA.out; clear HA; simp only [spec_Import.l0] at H; replace H := Yi H; rcases H with ⟨c12, H⟩ | ⟨c12, H⟩
   ·have c12b0 := decide_eq_true c12; clear c12; replace H := Yg H; obtain ⟨c13, H⟩ := H; have c13b0 := decide_eq_true c13; clear c13; replace H := Yd H; obtain ⟨⟨t663, t664, t665, t666, t667, t668⟩, A14, H⟩ := H; (try dsimp only at H); by_cases c15 : t668 = true
    ·subst c15; replace H := Yt H; replace H := Yg H; obtain ⟨c16, H⟩ := H; have LMc16 := Aside0.mk c16; clear c16; obtain ⟨y670, hy670⟩ : ∃ y_ : List (S46), y_ = (x5_1 ++ [(⟨t663, t664, t665, t666, t667⟩ : S46)]) := ⟨_, rfl⟩; replace H : ((spec_Unparse.f k1 y670).bind fun bt673 => (if bt673.2 = true then (spec_Import.l0 k1 t655 y670 (wrap64 (x6_1 + 1))) else (some ((([] : List Int)), 3, (rd_T68 t655 x6_1).f1, (rd_T68 t655 x6_1).f2)))) = some (r1, r2, r3, r4) := Yy hy670 H; have Ny670 := Aside0.mk hy670; clear hy670; replace H := Yd H; obtain ⟨⟨t673, t674⟩, A17, H⟩ := H; (try dsimp only at H); by_cases c18 : t674 = true
     ·subst c18; replace H := Yt H; have H' := Aside0.mk H; clear H; obtain ⟨Ao19, co19, eo19⟩ := Kd.R_slice HO_4.out; subst eo19; have p661 : 0 ≤ (x6_1 : Int) := of_decide_eq_true Z7; have q661 : x6_1 < (t655.length : Int) := of_decide_eq_true Z7; obtain ⟨ad661, e661, hx661_0, hx661_1, hx661_2⟩ := at_T68 (Kd.R_reads' HO_4.out).2.2 x6_1 p661 q661
      cases e661
      replace p661 := eq_true p661; replace q661 := eq_true q661
      go_wp2_with (first | ((with_reducible refine gate_dst (N := 7) rfl ?_); refine box_event (by rfl) (N := 7) (by rfl) (cs := #[.string (⟨#[]⟩ : ByteArray), .int .i64 0, .int .i64 0]) (t := 68) Z4 ?_; intro gb662 hg w20 hbox hb; replace HO_4 := Z (Kd.R_below (Kd.R_elderB (Z6 HO_4) gb662 (Nat.le_of_eq hg.symm)) hb); replace HO_5 := Z (Kd.R_below (Z6 HO_5) hb); have BK662 := Z (hbox); have GW662 := Z ((Z124 : w.heap.size ≤ gb662)); have GE662 := Z ((Z124 : w.heap.size ≤ gb662)); replace HB := Z (below_step Z90 hb); have NB651_662 := Z ((Z116 : gb651 ≠ gb662)); have NB662_651 := Z ((Z117 : gb662 ≠ gb651)); replace BK651 := Z (Yk10 BK651 hb); clear hb hbox hg; have hnb21 := NB662_651.out; have hnc21 := NB651_662.out; have hcz22 := Yb3 BK662.out) | ((with_reducible refine gate_callee (f := 33) rfl ?_); refine goesL_ (some 36) rfl rfl Tryz.func33 Z0 rfl #[.string ((rd_T68 t655 x6_1).f0)] rfl Z8 ?_; (with_reducible refine (spec_ReadItem.calls k1 ((rd_T68 t655 x6_1).f0) t663 t664 t665 t666 t667 true _ A14.out).mono ?_); rintro e w23 ⟨rfl, hb⟩; refine ⟨_, rfl, ?_⟩; replace HO_4 := Z (Kd.R_below (Z79 HO_4) hb); replace HO_5 := Z (Kd.R_below (by (with_reducible repeat (first | apply Kd.R_alloc | apply Kd.R_drewN | apply Kd.R_drew)); exact (Kd.R_mono (Kd.R_far (p := ⟨gb662, 2, none⟩) (Kd.R_far (p := ⟨gb662, 1, none⟩) (Kd.R_far (p := ⟨gb662, 0, none⟩) (Kd.R_types HO_5.out BK662.out (by decide)) (fun _ hk => hk.2) (.string ((rd_T68 t655 x6_1).f0))) (fun _ hk => hk.2) (.int .i64 ((rd_T68 t655 x6_1).f1))) (fun _ hk => hk.2) (.int .i64 ((rd_T68 t655 x6_1).f2))) (fun _ h_ => h_.1))) hb); replace BK651 := Z (Yk10 BK651 hb); replace BK662 := Z (blk_below (g := gb662) (o := .cells #[.string ((rd_T68 t655 x6_1).f0), .int .i64 ((rd_T68 t655 x6_1).f1), .int .i64 ((rd_T68 t655 x6_1).f2)] 68 (0, 0)) (Z80 BK662) hb); replace HB := Z (below_step Z90 hb); (try clear hb); (try clear hb2); (try clear hk); (try clear hi)) | ((with_reducible refine gate_dst (N := 8) rfl ?_); refine box_event (by rfl) (N := 8) (by rfl) (cs := #[.int .i64 0, .string (⟨#[]⟩ : ByteArray), .int .i32 0, .bool false, .int .u32 0]) (t := 46) Z4 ?_; intro gb669 hg w24 hbox hb; replace HO_4 := Z (Kd.R_below (Z6 HO_4) hb); replace HO_5 := Z (Kd.R_below (Kd.R_elderB (Z6 HO_5) gb669 (Nat.le_of_eq hg.symm)) hb); have BK669 := Z (hbox); have GW669 := Z ((Z124 : w.heap.size ≤ gb669)); have GE669 := Z ((Z124 : w.heap.size ≤ gb669)); replace HB := Z (below_step Z90 hb); have NB651_669 := Z ((Z116 : gb651 ≠ gb669)); have NB669_651 := Z ((Z117 : gb669 ≠ gb651)); replace BK651 := Z (Yk10 BK651 hb); have NB662_669 := Z ((Z118 : gb662 ≠ gb669)); have NB669_662 := Z ((Z119 : gb669 ≠ gb662)); replace BK662 := Z (Yk10 BK662 hb); clear hb hbox hg; have hnb25 := NB669_651.out; have hnc25 := NB651_669.out; have hnb26 := NB669_662.out; have hnc26 := NB662_669.out; have hcz27 := Yb5 BK669.out) | ((with_reducible refine gate_builtin (b := .append) (xs := #[.tmp 47, .tmp 49]) rfl ?_); at_builtin; refine Kd.R_append k46 (w0 := w) w.heap.size rfl (.tmp 47) (.tmp 49) 42 46 (.agg #[(.int .i64 0), (.string ⟨#[]⟩), (.int .i32 0), (.bool false), (.int .u32 0)]) 40 rfl Tryz.underlying42 info46 rfl (by decide) (by omega) u5 x5_1 (⟨t663, t664, t665, t666, t667⟩ : S46) [.int .i64 t663, .string t664, .int .i32 t665, .bool t666, .int .u32 t667] (fun k_ => k_ ≠ gb669) (fun _ => False) rfl Z4 ?aP (fun _ hk => hk.elim) ?aF ?aO ?aB ?aS ?aL ?_; (case aP => exact k46_mkM _ _ _ (⟨t663, t664, t665, t666, t667⟩ : S46)); (case aB => exact Z90); (case aF => exact (fun k_ hk => Kd.freshB (g := gb669) (o := .cells #[.int .i64 t663, .string t664, .int .i32 t665, .bool t666, .int .u32 t667] 46 (0, 0)) (Z81 BK669) k_ hk)); (case aO => exact (Z82 HO_5)); (case aS => exact (below_size Z90)); (case aL => have := LMc16.out; omega); intro v671 w28 ho hb hg hat; rw [← Ny670.out] at ho; replace HO_4 := Z (Kd.R_over' (by (with_reducible repeat (first | apply Kd.R_alloc | apply Kd.R_drewN | apply Kd.R_drew)); exact (Kd.R_mono (Kd.R_far (p := ⟨gb669, 4, none⟩) (Kd.R_far (p := ⟨gb669, 3, none⟩) (Kd.R_far (p := ⟨gb669, 2, none⟩) (Kd.R_far (p := ⟨gb669, 1, none⟩) (Kd.R_far (p := ⟨gb669, 0, none⟩) (Kd.R_types HO_4.out BK669.out (by decide)) (fun _ hk => hk.2) (.int .i64 t663)) (fun _ hk => hk.2) (.string t664)) (fun _ hk => hk.2) (.int .i32 t665)) (fun _ hk => hk.2) (.bool t666)) (fun _ hk => hk.2) (.int .u32 t667)) (fun _ h_ => h_.1))) (Kd.R_typed (Z83 HO_5)) (by decide) hg); replace BK651 := Z (blk_grown (g := gb651) (o := .cells #[.int .i64 x652000_1, .int .i64 x652001_1, .int .i64 x652002_1] 28 (0, 0)) (Z84 BK651) hg (Kd.R_ne HO_5.out BK651.out (by decide))); replace BK662 := Z (blk_grown (g := gb662) (o := .cells #[.string ((rd_T68 t655 x6_1).f0), .int .i64 ((rd_T68 t655 x6_1).f1), .int .i64 ((rd_T68 t655 x6_1).f2)] 68 (0, 0)) (Z85 BK662) hg (Kd.R_ne HO_5.out BK662.out (by decide))); replace BK669 := Z (blk_grown (g := gb669) (o := .cells #[.int .i64 t663, .string t664, .int .i32 t665, .bool t666, .int .u32 t667] 46 (0, 0)) (Z81 BK669) hg (Kd.R_away HO_5.out (fun _ hk => hk.2))); replace HB := Z (hb); have HO672 := Z (ho); clear HO_5; clear ho hb hg hat; obtain ⟨Ao29, co29, eo29⟩ := Kd.R_slice HO672.out; subst eo29) | ((with_reducible refine gate_callee (f := 34) rfl ?_); refine goesL_ (some 53) rfl rfl Tryz.func34 Z0 rfl #[.slice Ao29 y670.length co29] rfl Z8 ?_; (with_reducible refine (spec_Unparse.calls k1 _ _ y670 t673 true _ ?side1 ?side2 A17.out).mono ?_); (case side1 => exact (Z30 HO672)); (case side2 => exact (Kd.R_reads' HO672.out).2.1); rintro e w30 ⟨v675, rfl, ho0, hb⟩; refine ⟨_, rfl, ?_⟩; replace HO_4 := Z (Kd.R_below (Z6 HO_4) hb); replace HO672 := Z (Kd.R_below (Z6 HO672) hb); have HO676 := Z (Kd.R_lower ho0 (below_size Z90)); replace BK651 := Z (Yk10 BK651 hb); replace BK662 := Z (Yk10 BK662 hb); replace BK669 := Z (Yk10 BK669 hb); replace HB := Z (below_step Z90 hb); (try clear hb); (try clear hb2); (try clear hk); (try clear hi); (try clear ho0)))
      go_roundg k1
      case measure => have := HK1.out; omega
      case rel => exact ⟨(y670), (wrap64 (x6_1 + 1)), (x652000_1), (x652001_1), (x652002_1), Z2, H', ⟨Z9⟩, ⟨(Z17 HO_4)⟩, ⟨(Z17 HO672)⟩, ⟨(Z15 BK651)⟩, ⟨Z90⟩⟩
     replace c18 := Bool.eq_false_iff.mpr c18; subst c18; replace H := Yf H; obtain ⟨y677, hy677⟩ : ∃ y_ : List Int, y_ = (([] : List Int)) := ⟨_, rfl⟩; replace H : (some (y677, 3, (rd_T68 t655 x6_1).f1, (rd_T68 t655 x6_1).f2)) = some (r1, r2, r3, r4) := Yy hy677 H; have Ny677 := Aside0.mk hy677; clear hy677; simp only [Option.some.injEq, Prod.mk.injEq] at H; obtain ⟨rfl, rfl, rfl, rfl⟩ := H; obtain ⟨Ao31, co31, eo31⟩ := Kd.R_slice HO_4.out; subst eo31; have p661 : 0 ≤ (x6_1 : Int) := of_decide_eq_true Z7; have q661 : x6_1 < (t655.length : Int) := of_decide_eq_true Z7; obtain ⟨ad661, e661, hx661_0, hx661_1, hx661_2⟩ := at_T68 (Kd.R_reads' HO_4.out).2.2 x6_1 p661 q661
     cases e661
     replace p661 := eq_true p661; replace q661 := eq_true q661
     try go_wp2_with (first | ((with_reducible refine gate_dst (N := 7) rfl ?_); refine box_event (by rfl) (N := 7) (by rfl) (cs := #[.string (⟨#[]⟩ : ByteArray), .int .i64 0, .int .i64 0]) (t := 68) Z4 ?_; intro gb662 hg w32 hbox hb; replace HO_4 := Z (Kd.R_below (Kd.R_elderB (Z6 HO_4) gb662 (Nat.le_of_eq hg.symm)) hb); replace HO_5 := Z (Kd.R_below (Z6 HO_5) hb); have BK662 := Z (hbox); have GW662 := Z ((Z124 : w.heap.size ≤ gb662)); have GE662 := Z ((Z124 : w.heap.size ≤ gb662)); replace HB := Z (below_step Z90 hb); have NB651_662 := Z ((Z116 : gb651 ≠ gb662)); have NB662_651 := Z ((Z117 : gb662 ≠ gb651)); replace BK651 := Z (Yk10 BK651 hb); clear hb hbox hg; have hnb33 := NB662_651.out; have hnc33 := NB651_662.out; have hcz34 := Yb3 BK662.out) | ((with_reducible refine gate_callee (f := 33) rfl ?_); refine goesL_ (some 36) rfl rfl Tryz.func33 Z0 rfl #[.string ((rd_T68 t655 x6_1).f0)] rfl Z8 ?_; (with_reducible refine (spec_ReadItem.calls k1 ((rd_T68 t655 x6_1).f0) t663 t664 t665 t666 t667 true _ A14.out).mono ?_); rintro e w35 ⟨rfl, hb⟩; refine ⟨_, rfl, ?_⟩; replace HO_4 := Z (Kd.R_below (Z79 HO_4) hb); replace HO_5 := Z (Kd.R_below (by (with_reducible repeat (first | apply Kd.R_alloc | apply Kd.R_drewN | apply Kd.R_drew)); exact (Kd.R_mono (Kd.R_far (p := ⟨gb662, 2, none⟩) (Kd.R_far (p := ⟨gb662, 1, none⟩) (Kd.R_far (p := ⟨gb662, 0, none⟩) (Kd.R_types HO_5.out BK662.out (by decide)) (fun _ hk => hk.2) (.string ((rd_T68 t655 x6_1).f0))) (fun _ hk => hk.2) (.int .i64 ((rd_T68 t655 x6_1).f1))) (fun _ hk => hk.2) (.int .i64 ((rd_T68 t655 x6_1).f2))) (fun _ h_ => h_.1))) hb); replace BK651 := Z (Yk10 BK651 hb); replace BK662 := Z (blk_below (g := gb662) (o := .cells #[.string ((rd_T68 t655 x6_1).f0), .int .i64 ((rd_T68 t655 x6_1).f1), .int .i64 ((rd_T68 t655 x6_1).f2)] 68 (0, 0)) (Z80 BK662) hb); replace HB := Z (below_step Z90 hb); (try clear hb); (try clear hb2); (try clear hk); (try clear hi)) | ((with_reducible refine gate_dst (N := 8) rfl ?_); refine box_event (by rfl) (N := 8) (by rfl) (cs := #[.int .i64 0, .string (⟨#[]⟩ : ByteArray), .int .i32 0, .bool false, .int .u32 0]) (t := 46) Z4 ?_; intro gb669 hg w36 hbox hb; replace HO_4 := Z (Kd.R_below (Z6 HO_4) hb); replace HO_5 := Z (Kd.R_below (Kd.R_elderB (Z6 HO_5) gb669 (Nat.le_of_eq hg.symm)) hb); have BK669 := Z (hbox); have GW669 := Z ((Z124 : w.heap.size ≤ gb669)); have GE669 := Z ((Z124 : w.heap.size ≤ gb669)); replace HB := Z (below_step Z90 hb); have NB651_669 := Z ((Z116 : gb651 ≠ gb669)); have NB669_651 := Z ((Z117 : gb669 ≠ gb651)); replace BK651 := Z (Yk10 BK651 hb); have NB662_669 := Z ((Z118 : gb662 ≠ gb669)); have NB669_662 := Z ((Z119 : gb669 ≠ gb662)); replace BK662 := Z (Yk10 BK662 hb); clear hb hbox hg; have hnb37 := NB669_651.out; have hnc37 := NB651_669.out; have hnb38 := NB669_662.out; have hnc38 := NB662_669.out; have hcz39 := Yb5 BK669.out) | ((with_reducible refine gate_builtin (b := .append) (xs := #[.tmp 47, .tmp 49]) rfl ?_); at_builtin; refine Kd.R_append k46 (w0 := w) w.heap.size rfl (.tmp 47) (.tmp 49) 42 46 (.agg #[(.int .i64 0), (.string ⟨#[]⟩), (.int .i32 0), (.bool false), (.int .u32 0)]) 40 rfl Tryz.underlying42 info46 rfl (by decide) (by omega) u5 x5_1 (⟨t663, t664, t665, t666, t667⟩ : S46) [.int .i64 t663, .string t664, .int .i32 t665, .bool t666, .int .u32 t667] (fun k_ => k_ ≠ gb669) (fun _ => False) rfl Z4 ?aP (fun _ hk => hk.elim) ?aF ?aO ?aB ?aS ?aL ?_; (case aP => exact k46_mkM _ _ _ (⟨t663, t664, t665, t666, t667⟩ : S46)); (case aB => exact Z90); (case aF => exact (fun k_ hk => Kd.freshB (g := gb669) (o := .cells #[.int .i64 t663, .string t664, .int .i32 t665, .bool t666, .int .u32 t667] 46 (0, 0)) (Z81 BK669) k_ hk)); (case aO => exact (Z82 HO_5)); (case aS => exact (below_size Z90)); (case aL => have := LMc16.out; omega); intro v671 w40 ho hb hg hat; rw [← Ny670.out] at ho; replace HO_4 := Z (Kd.R_over' (by (with_reducible repeat (first | apply Kd.R_alloc | apply Kd.R_drewN | apply Kd.R_drew)); exact (Kd.R_mono (Kd.R_far (p := ⟨gb669, 4, none⟩) (Kd.R_far (p := ⟨gb669, 3, none⟩) (Kd.R_far (p := ⟨gb669, 2, none⟩) (Kd.R_far (p := ⟨gb669, 1, none⟩) (Kd.R_far (p := ⟨gb669, 0, none⟩) (Kd.R_types HO_4.out BK669.out (by decide)) (fun _ hk => hk.2) (.int .i64 t663)) (fun _ hk => hk.2) (.string t664)) (fun _ hk => hk.2) (.int .i32 t665)) (fun _ hk => hk.2) (.bool t666)) (fun _ hk => hk.2) (.int .u32 t667)) (fun _ h_ => h_.1))) (Kd.R_typed (Z83 HO_5)) (by decide) hg); replace BK651 := Z (blk_grown (g := gb651) (o := .cells #[.int .i64 x652000_1, .int .i64 x652001_1, .int .i64 x652002_1] 28 (0, 0)) (Z84 BK651) hg (Kd.R_ne HO_5.out BK651.out (by decide))); replace BK662 := Z (blk_grown (g := gb662) (o := .cells #[.string ((rd_T68 t655 x6_1).f0), .int .i64 ((rd_T68 t655 x6_1).f1), .int .i64 ((rd_T68 t655 x6_1).f2)] 68 (0, 0)) (Z85 BK662) hg (Kd.R_ne HO_5.out BK662.out (by decide))); replace BK669 := Z (blk_grown (g := gb669) (o := .cells #[.int .i64 t663, .string t664, .int .i32 t665, .bool t666, .int .u32 t667] 46 (0, 0)) (Z81 BK669) hg (Kd.R_away HO_5.out (fun _ hk => hk.2))); replace HB := Z (hb); have HO672 := Z (ho); clear HO_5; clear ho hb hg hat; obtain ⟨Ao41, co41, eo41⟩ := Kd.R_slice HO672.out; subst eo41) | ((with_reducible refine gate_callee (f := 34) rfl ?_); refine goesL_ (some 53) rfl rfl Tryz.func34 Z0 rfl #[.slice Ao41 y670.length co41] rfl Z8 ?_; (with_reducible refine (spec_Unparse.calls k1 _ _ y670 t673 false _ ?side1 ?side2 A17.out).mono ?_); (case side1 => exact (Z30 HO672)); (case side2 => exact (Kd.R_reads' HO672.out).2.1); rintro e w42 ⟨v675, rfl, ho0, hb⟩; refine ⟨_, rfl, ?_⟩; replace HO_4 := Z (Kd.R_below (Z6 HO_4) hb); replace HO672 := Z (Kd.R_below (Z6 HO672) hb); have HO676 := Z (Kd.R_lower ho0 (below_size Z90)); replace BK651 := Z (Yk10 BK651 hb); replace BK662 := Z (Yk10 BK662 hb); replace BK669 := Z (Yk10 BK669 hb); replace HB := Z (below_step Z90 hb); (try clear hb); (try clear hb2); (try clear hk); (try clear hi); (try clear ho0)))
     have n0_ := Z (Kd.R_drew HO_4.out); have n1_ := Z (Kd.R_drew HO672.out); have n2_ := Z (Kd.R_drew HO676.out); have n3_ := Z (blk_drew BK651.out); have n4_ := Z (blk_drew BK662.out); have n5_ := Z (blk_drew BK669.out); have n6_ := Z (below_drew1 HB.out); clear HO_4; clear HO672; clear HO676; clear BK651; clear BK662; clear BK669; clear HB; have HO_4 := n0_; have HO672 := n1_; have HO676 := n2_; have BK651 := n3_; have BK662 := n4_; have BK669 := n5_; have HB := n6_; clear n0_ n1_ n2_ n3_ n4_ n5_ n6_; refine start_ (n := 8) (S := fun w' => w'.cell? ⟨gb662, 0, none⟩ = some (.string ((rd_T68 t655 x6_1).f0)) ∧ w'.cell? ⟨gb662, 1, none⟩ = some (.int .i64 ((rd_T68 t655 x6_1).f1)) ∧ w'.cell? ⟨gb662, 2, none⟩ = some (.int .i64 ((rd_T68 t655 x6_1).f2))) (ds := []) #[false, false, false, false, false, false, false, false] Z0 rfl rfl ⟨(blk_cell BK662.out 0).trans rfl, (blk_cell BK662.out 1).trans rfl, (blk_cell BK662.out 2).trans rfl⟩ (fun hHeld => ?_); refine with_tabW spec_Import.tab15 spec_Import.bits15 (fun HT_ HW_ => ?_)
     generalize w42.drew = w43 at HO_4 HO672 HO676 BK651 BK662 BK669 HB hHeld ⊢; refine pure_ (i := 1) (N := some 59) (v := ?_) (a' := ?_) #[false, true, false, false, false, false, false, false] rfl rfl (any_of HT_.out Z0) (fun _ _ _ h => h) (Or.inl ⟨by rfl, ?_⟩) ?_ ?_
     rotate_left
     ·intro w'
      go_simp
      with_reducible rfl
     rotate_left
     ·simp only [Act.put, List.setIfInBounds_toArray, List.set_cons_zero, List.set_cons_succ, i64_w, i32_w]
      rfl
     refine pure_ (i := 3) (N := some 61) (v := ?_) (a' := ?_) #[false, true, false, true, false, false, false, false] rfl rfl (any_of HT_.out Z0) (fun _ _ _ h => h) (Or.inl ⟨by rfl, ?_⟩) ?_ ?_
     rotate_left
     ·intro w'
      go_simp
      with_reducible rfl
     rotate_left
     ·simp only [Act.put, List.setIfInBounds_toArray, List.set_cons_zero, List.set_cons_succ, i64_w, i32_w]
      rfl
     refine take_ (i := 2) (N := some 60) (v := ?_) (a' := ?_) #[false, true, true, true, false, false, false, false] rfl rfl (take_ofW HT_.out HW_.out Z0) (fun _ _ _ h => h) (Or.inl ⟨by rfl, ?_⟩) hHeld ?_ ?_
     rotate_left
     ·rintro w' ⟨s0, s1, s2⟩
      go_simp
      with_reducible rfl
     rotate_left
     ·simp only [Act.put, List.setIfInBounds_toArray, List.set_cons_zero, List.set_cons_succ, i64_w, i32_w]
      rfl
     refine take_ (i := 4) (N := some 62) (v := ?_) (a' := ?_) #[false, true, true, true, true, false, false, false] rfl rfl (take_ofW HT_.out HW_.out Z0) (fun _ _ _ h => h) (Or.inl ⟨by rfl, ?_⟩) hHeld ?_ ?_
     rotate_left
     ·rintro w' ⟨s0, s1, s2⟩
      go_simp
      with_reducible rfl
     rotate_left
     ·simp only [Act.put, List.setIfInBounds_toArray, List.set_cons_zero, List.set_cons_succ, i64_w, i32_w]
      rfl
     refine pure_ (i := 5) (N := some 63) (v := ?_) (a' := ?_) #[false, true, true, true, true, true, false, false] rfl rfl (any_of HT_.out Z0) (fun _ _ _ h => h) (Or.inl ⟨by rfl, ?_⟩) ?_ ?_
     rotate_left
     ·intro w'
      go_simp
      with_reducible rfl
     rotate_left
     ·simp only [Act.put, List.setIfInBounds_toArray, List.set_cons_zero, List.set_cons_succ, i64_w, i32_w]
      rfl
     refine one_ (i := 0) (N := some 58) #[true, true, true, true, true, true, false, false] rfl rfl (one_of HT_.out Z0) (by decide) (fun K hK => ?_)
     refine Kd.R_lit_step (Kd.int .u32) _ 44 ?hg (N := 58) ?hd (xs := ([] : List Int)) (inner := []) (ok := fun _ => True) (okp := fun _ => True) ?hr ?hp (fun _ hk => hk) trivial (Below.refl _ _) (Nat.le_refl _) (by simp) ?_; (case hd => rfl); (case hg => rfl); (case hr => exact Z4); (case hp => exact (Reps.none _ _))
     intro v678 w44 ho45 hb hg_ hnew_; clear hg_ hnew_
     (first | rw [← Ny677.out] at ho45 | (simp only [Int.reduceToNat] at ho45; rw [← Ny677.out] at ho45))
     have n0_ := Z (Kd.R_below (Z6 HO_4) hb); have n1_ := Z (Kd.R_below (Z6 HO672) hb); have n2_ := Z (Kd.R_elder' (Z6 HO676) (Kd.R_base ho45) hb); have n3_ := Z (Kd.R_lower (Kd.R_new' ho45 (Kd.R_lt (Z6 HO676))) (below_size Z90)); have n4_ := Z (Yk10 BK651 hb); have n5_ := Z (Yk10 BK662 hb); have n6_ := Z (Yk10 BK669 hb); have n7_ := Z (below_step Z90 hb); clear HO_4; clear HO672; clear HO676; clear BK651; clear BK662; clear BK669; clear HB; have HO_4 := n0_; have HO672 := n1_; have HO676 := n2_; have HO679 := n3_; have BK651 := n4_; have BK662 := n5_; have BK669 := n6_; have HB := n7_; clear n0_ n1_ n2_ n3_ n4_ n5_ n6_ n7_; clear hb ho45; refine hK.out _ _ ⟨(blk_cell BK662.out 0).trans rfl, (blk_cell BK662.out 1).trans rfl, (blk_cell BK662.out 2).trans rfl⟩ (fun hHeld => ?_)
     clear hK K; refine norm_ (a' := ?_) ?_ ?_
     rotate_left
     ·show Act.put _ (some 58) _ = _
      simp only [Act.put, List.setIfInBounds_toArray, List.set_cons_zero, List.set_cons_succ, i64_w, i32_w]
      rfl
     refine pure_ (i := 6) (N := some 2) (v := ?_) (a' := ?_) #[true, true, true, true, true, true, true, false] rfl rfl (any_of HT_.out Z0) (fun _ _ _ h => h) (Or.inl ⟨by rfl, ?_⟩) ?_ ?_
     rotate_left
     ·intro w'
      go_simp
      with_reducible rfl
     rotate_left
     ·simp only [Act.put, List.setIfInBounds_toArray, List.set_cons_zero, List.set_cons_succ, i64_w, i32_w]
      rfl
     refine one_ (i := 7) (N := none) #[true, true, true, true, true, true, true, true] rfl rfl (one_of HT_.out Z0) (by decide) (fun K hK => ?_)
     have hs46 : w44.cell? ⟨gb651, 0, none⟩ = some (.int .i64 x652000_1) := (blk_cell BK651.out 0).trans rfl; have hfs46 := blk_frozen BK651.out 0; have hns46_1 := NB662_651.out; have hns46_2 := NB669_651.out; have hms46_1 := NB651_662.out; have hms46_2 := NB651_669.out; have hs47 : w44.cell? ⟨gb651, 1, none⟩ = some (.int .i64 x652001_1) := (blk_cell BK651.out 1).trans rfl; have hfs47 := blk_frozen BK651.out 1; have hns47_1 := NB662_651.out; have hns47_2 := NB669_651.out; have hms47_1 := NB651_662.out; have hms47_2 := NB651_669.out; have hs48 : w44.cell? ⟨gb651, 2, none⟩ = some (.int .i64 x652002_1) := (blk_cell BK651.out 2).trans rfl; have hfs48 := blk_frozen BK651.out 2; have hns48_1 := NB662_651.out; have hns48_2 := NB669_651.out; have hms48_1 := NB651_662.out; have hms48_2 := NB651_669.out; refine skip_ (w1 := ?_) (by rfl) rfl ?_ ?_
     rotate_left
     ·go_simp
      rfl
     refine hK.out _ _ ⟨((cell_far (p := ⟨gb651, _, none⟩) NB662_651.out _).trans (((cell_far (p := ⟨gb651, _, none⟩) NB662_651.out _).trans (((cell_far (p := ⟨gb651, _, none⟩) NB662_651.out _).trans (hHeld.1)))))), ((cell_far (p := ⟨gb651, _, none⟩) NB662_651.out _).trans (((cell_far (p := ⟨gb651, _, none⟩) NB662_651.out _).trans (((cell_far (p := ⟨gb651, _, none⟩) NB662_651.out _).trans (hHeld.2.1)))))), ((cell_far (p := ⟨gb651, _, none⟩) NB662_651.out _).trans (((cell_far (p := ⟨gb651, _, none⟩) NB662_651.out _).trans (((cell_far (p := ⟨gb651, _, none⟩) NB662_651.out _).trans (hHeld.2.2))))))⟩ (fun hHeld => ?_)
     clear hK K; refine done_ (done_of HT_.out Z0) ?_
     try go_wp2
     refine bodyPost_ret (results_tc rfl _ _ gb651 28 #[.int .i64 3, .int .i64 ((rd_T68 t655 x6_1).f1), .int .i64 ((rd_T68 t655 x6_1).f2)] (0, 0) _ rfl (by (with_reducible repeat (first | refine blk_drewN ?_ _ | refine blk_drew ?_ | refine blk_alloc ?_ _)); refine blk_put (cs := #[.int .i64 3, .int .i64 ((rd_T68 t655 x6_1).f1), .int .i64 x652002_1]) ?_ 2 _ rfl; (with_reducible repeat (first | refine blk_drewN ?_ _ | refine blk_drew ?_ | refine blk_alloc ?_ _)); refine blk_put (cs := #[.int .i64 3, .int .i64 x652001_1, .int .i64 x652002_1]) ?_ 1 _ rfl; (with_reducible repeat (first | refine blk_drewN ?_ _ | refine blk_drew ?_ | refine blk_alloc ?_ _)); refine blk_put (cs := #[.int .i64 x652000_1, .int .i64 x652001_1, .int .i64 x652002_1]) ?_ 0 _ rfl; (with_reducible repeat (first | refine blk_drewN ?_ _ | refine blk_drew ?_ | refine blk_alloc ?_ _)); exact BK651.out) Tryz.underlying28 rfl Z0) rfl ?_
     exact ⟨_, Z91, by (with_reducible repeat (first | apply Kd.R_alloc | apply Kd.R_drewN | apply Kd.R_drew)); exact Kd.R_mono (Kd.R_far (p := ⟨gb651, 2, none⟩) (Kd.R_far (p := ⟨gb651, 1, none⟩) (Kd.R_far (p := ⟨gb651, 0, none⟩) (Kd.R_types HO679.out BK651.out (by decide)) (fun _ hk => hk.2) (.int .i64 3)) (fun _ hk => hk.2) (.int .i64 ((rd_T68 t655 x6_1).f1))) (fun _ hk => hk.2) (.int .i64 ((rd_T68 t655 x6_1).f2))) (fun _ hk => trivial), Z90⟩
    replace c15 := Bool.eq_false_iff.mpr c15; subst c15; replace H := Yf H; obtain ⟨y680, hy680⟩ : ∃ y_ : List Int, y_ = (([] : List Int)) := ⟨_, rfl⟩; replace H : (some (y680, 2, (rd_T68 t655 x6_1).f1, (rd_T68 t655 x6_1).f2)) = some (r1, r2, r3, r4) := Yy hy680 H; have Ny680 := Aside0.mk hy680; clear hy680; simp only [Option.some.injEq, Prod.mk.injEq] at H; obtain ⟨rfl, rfl, rfl, rfl⟩ := H; obtain ⟨Ao49, co49, eo49⟩ := Kd.R_slice HO_4.out; subst eo49; have p661 : 0 ≤ (x6_1 : Int) := of_decide_eq_true Z7; have q661 : x6_1 < (t655.length : Int) := of_decide_eq_true Z7; obtain ⟨ad661, e661, hx661_0, hx661_1, hx661_2⟩ := at_T68 (Kd.R_reads' HO_4.out).2.2 x6_1 p661 q661
    cases e661
    replace p661 := eq_true p661; replace q661 := eq_true q661
    try go_wp2_with (first | ((with_reducible refine gate_dst (N := 7) rfl ?_); refine box_event (by rfl) (N := 7) (by rfl) (cs := #[.string (⟨#[]⟩ : ByteArray), .int .i64 0, .int .i64 0]) (t := 68) Z4 ?_; intro gb662 hg w50 hbox hb; replace HO_4 := Z (Kd.R_below (Kd.R_elderB (Z6 HO_4) gb662 (Nat.le_of_eq hg.symm)) hb); replace HO_5 := Z (Kd.R_below (Z6 HO_5) hb); have BK662 := Z (hbox); have GW662 := Z ((Z124 : w.heap.size ≤ gb662)); have GE662 := Z ((Z124 : w.heap.size ≤ gb662)); replace HB := Z (below_step Z90 hb); have NB651_662 := Z ((Z116 : gb651 ≠ gb662)); have NB662_651 := Z ((Z117 : gb662 ≠ gb651)); replace BK651 := Z (Yk10 BK651 hb); clear hb hbox hg; have hnb51 := NB662_651.out; have hnc51 := NB651_662.out; have hcz52 := Yb3 BK662.out) | ((with_reducible refine gate_callee (f := 33) rfl ?_); refine goesL_ (some 36) rfl rfl Tryz.func33 Z0 rfl #[.string ((rd_T68 t655 x6_1).f0)] rfl Z8 ?_; (with_reducible refine (spec_ReadItem.calls k1 ((rd_T68 t655 x6_1).f0) t663 t664 t665 t666 t667 false _ A14.out).mono ?_); rintro e w53 ⟨rfl, hb⟩; refine ⟨_, rfl, ?_⟩; replace HO_4 := Z (Kd.R_below (Z79 HO_4) hb); replace HO_5 := Z (Kd.R_below (by (with_reducible repeat (first | apply Kd.R_alloc | apply Kd.R_drewN | apply Kd.R_drew)); exact (Kd.R_mono (Kd.R_far (p := ⟨gb662, 2, none⟩) (Kd.R_far (p := ⟨gb662, 1, none⟩) (Kd.R_far (p := ⟨gb662, 0, none⟩) (Kd.R_types HO_5.out BK662.out (by decide)) (fun _ hk => hk.2) (.string ((rd_T68 t655 x6_1).f0))) (fun _ hk => hk.2) (.int .i64 ((rd_T68 t655 x6_1).f1))) (fun _ hk => hk.2) (.int .i64 ((rd_T68 t655 x6_1).f2))) (fun _ h_ => h_.1))) hb); replace BK651 := Z (Yk10 BK651 hb); replace BK662 := Z (blk_below (g := gb662) (o := .cells #[.string ((rd_T68 t655 x6_1).f0), .int .i64 ((rd_T68 t655 x6_1).f1), .int .i64 ((rd_T68 t655 x6_1).f2)] 68 (0, 0)) (Z80 BK662) hb); replace HB := Z (below_step Z90 hb); (try clear hb); (try clear hb2); (try clear hk); (try clear hi)) | ((with_reducible refine gate_dst (N := 8) rfl ?_); refine box_event (by rfl) (N := 8) (by rfl) (cs := #[.int .i64 0, .string (⟨#[]⟩ : ByteArray), .int .i32 0, .bool false, .int .u32 0]) (t := 46) Z4 ?_; intro gb669 hg w54 hbox hb; replace HO_4 := Z (Kd.R_below (Z6 HO_4) hb); replace HO_5 := Z (Kd.R_below (Kd.R_elderB (Z6 HO_5) gb669 (Nat.le_of_eq hg.symm)) hb); have BK669 := Z (hbox); have GW669 := Z ((Z124 : w.heap.size ≤ gb669)); have GE669 := Z ((Z124 : w.heap.size ≤ gb669)); replace HB := Z (below_step Z90 hb); have NB651_669 := Z ((Z116 : gb651 ≠ gb669)); have NB669_651 := Z ((Z117 : gb669 ≠ gb651)); replace BK651 := Z (Yk10 BK651 hb); have NB662_669 := Z ((Z118 : gb662 ≠ gb669)); have NB669_662 := Z ((Z119 : gb669 ≠ gb662)); replace BK662 := Z (Yk10 BK662 hb); clear hb hbox hg; have hnb55 := NB669_651.out; have hnc55 := NB651_669.out; have hnb56 := NB669_662.out; have hnc56 := NB662_669.out; have hcz57 := Yb5 BK669.out))
    have n0_ : Aside0 (Kd.R k68 68 (((((w54.setCell ⟨gb669, 0, none⟩ (.int .i64 t663)).setCell ⟨gb669, 1, none⟩ (.string t664)).setCell ⟨gb669, 2, none⟩ (.int .i32 t665)).setCell ⟨gb669, 3, none⟩ (.bool t666)).setCell ⟨gb669, 4, none⟩ (.int .u32 t667)) w.heap.size (fun k_ => k_ ≠ gb662) (.slice (some ad661) t655.length co49) t655) := ⟨by (with_reducible repeat (first | apply Kd.R_alloc | apply Kd.R_drewN | apply Kd.R_drew)); exact Kd.R_mono (Kd.R_far (p := ⟨gb669, 4, none⟩) (Kd.R_far (p := ⟨gb669, 3, none⟩) (Kd.R_far (p := ⟨gb669, 2, none⟩) (Kd.R_far (p := ⟨gb669, 1, none⟩) (Kd.R_far (p := ⟨gb669, 0, none⟩) (Kd.R_types HO_4.out BK669.out (by decide)) (fun _ hk => hk.2) (.int .i64 t663)) (fun _ hk => hk.2) (.string t664)) (fun _ hk => hk.2) (.int .i32 t665)) (fun _ hk => hk.2) (.bool t666)) (fun _ hk => hk.2) (.int .u32 t667)) (fun _ hk => hk.1.2)⟩; have n1_ : Aside0 (Kd.R k46 46 (((((w54.setCell ⟨gb669, 0, none⟩ (.int .i64 t663)).setCell ⟨gb669, 1, none⟩ (.string t664)).setCell ⟨gb669, 2, none⟩ (.int .i32 t665)).setCell ⟨gb669, 3, none⟩ (.bool t666)).setCell ⟨gb669, 4, none⟩ (.int .u32 t667)) w.heap.size (fun k_ => k_ ≠ gb669) u5 x5_1) := ⟨(Z82 HO_5)⟩; have n2_ : Aside0 ((((((w54.setCell ⟨gb669, 0, none⟩ (.int .i64 t663)).setCell ⟨gb669, 1, none⟩ (.string t664)).setCell ⟨gb669, 2, none⟩ (.int .i32 t665)).setCell ⟨gb669, 3, none⟩ (.bool t666)).setCell ⟨gb669, 4, none⟩ (.int .u32 t667)).heap[gb651]? = some (.cells #[.int .i64 x652000_1, .int .i64 x652001_1, .int .i64 x652002_1] 28 (0, 0))) := ⟨(Z84 BK651)⟩; have n3_ : Aside0 ((((((w54.setCell ⟨gb669, 0, none⟩ (.int .i64 t663)).setCell ⟨gb669, 1, none⟩ (.string t664)).setCell ⟨gb669, 2, none⟩ (.int .i32 t665)).setCell ⟨gb669, 3, none⟩ (.bool t666)).setCell ⟨gb669, 4, none⟩ (.int .u32 t667)).heap[gb662]? = some (.cells #[.string ((rd_T68 t655 x6_1).f0), .int .i64 ((rd_T68 t655 x6_1).f1), .int .i64 ((rd_T68 t655 x6_1).f2)] 68 (0, 0))) := ⟨(Z85 BK662)⟩; have n4_ : Aside0 ((((((w54.setCell ⟨gb669, 0, none⟩ (.int .i64 t663)).setCell ⟨gb669, 1, none⟩ (.string t664)).setCell ⟨gb669, 2, none⟩ (.int .i32 t665)).setCell ⟨gb669, 3, none⟩ (.bool t666)).setCell ⟨gb669, 4, none⟩ (.int .u32 t667)).heap[gb669]? = some (.cells #[.int .i64 t663, .string t664, .int .i32 t665, .bool t666, .int .u32 t667] 46 (0, 0))) := ⟨(Z81 BK669)⟩; have n5_ : Aside0 (Below w.heap.size w (((((w54.setCell ⟨gb669, 0, none⟩ (.int .i64 t663)).setCell ⟨gb669, 1, none⟩ (.string t664)).setCell ⟨gb669, 2, none⟩ (.int .i32 t665)).setCell ⟨gb669, 3, none⟩ (.bool t666)).setCell ⟨gb669, 4, none⟩ (.int .u32 t667))) := ⟨Z90⟩
    (try clear HO_4)
    (try clear HO_5)
    (try clear BK651)
    (try clear BK662)
    (try clear BK669)
    (try clear HB)
    (try rw [show ∀ (W_ : World) (n_ : Nat) (p_ : Addr) (v_ : Value), (W_.drewN n_).setCell p_ v_ = (W_.setCell p_ v_).drewN n_ from fun _ _ _ _ => rfl])
    generalize (((((w54.setCell ⟨gb669, 0, none⟩ (.int .i64 t663)).setCell ⟨gb669, 1, none⟩ (.string t664)).setCell ⟨gb669, 2, none⟩ (.int .i32 t665)).setCell ⟨gb669, 3, none⟩ (.bool t666)).setCell ⟨gb669, 4, none⟩ (.int .u32 t667)) = w58 at n0_ n1_ n2_ n3_ n4_ n5_ ⊢; have HO_4 := n0_; have HO_5 := n1_; have BK651 := n2_; have BK662 := n3_; have BK669 := n4_; have HB := n5_; clear n0_ n1_ n2_ n3_ n4_ n5_; have n0_ := Z (Kd.R_drew HO_4.out); have n1_ := Z (Kd.R_drew HO_5.out); have n2_ := Z (blk_drew BK651.out); have n3_ := Z (blk_drew BK662.out); have n4_ := Z (blk_drew BK669.out); have n5_ := Z (below_drew1 HB.out); clear HO_4; clear HO_5; clear BK651; clear BK662; clear BK669; clear HB; have HO_4 := n0_; have HO_5 := n1_; have BK651 := n2_; have BK662 := n3_; have BK669 := n4_; have HB := n5_; clear n0_ n1_ n2_ n3_ n4_ n5_; refine start_ (n := 8) (S := fun w' => w'.cell? ⟨gb662, 0, none⟩ = some (.string ((rd_T68 t655 x6_1).f0)) ∧ w'.cell? ⟨gb662, 1, none⟩ = some (.int .i64 ((rd_T68 t655 x6_1).f1)) ∧ w'.cell? ⟨gb662, 2, none⟩ = some (.int .i64 ((rd_T68 t655 x6_1).f2))) (ds := []) #[false, false, false, false, false, false, false, false] Z0 rfl rfl ⟨(blk_cell BK662.out 0).trans rfl, (blk_cell BK662.out 1).trans rfl, (blk_cell BK662.out 2).trans rfl⟩ (fun hHeld => ?_); refine with_tabW spec_Import.tab11 spec_Import.bits11 (fun HT_ HW_ => ?_)
    generalize w58.drew = w59 at HO_4 HO_5 BK651 BK662 BK669 HB hHeld ⊢; refine pure_ (i := 1) (N := some 42) (v := ?_) (a' := ?_) #[false, true, false, false, false, false, false, false] rfl rfl (any_of HT_.out Z0) (fun _ _ _ h => h) (Or.inl ⟨by rfl, ?_⟩) ?_ ?_
    rotate_left
    ·intro w'
     go_simp
     with_reducible rfl
    rotate_left
    ·simp only [Act.put, List.setIfInBounds_toArray, List.set_cons_zero, List.set_cons_succ, i64_w, i32_w]
     rfl
    refine pure_ (i := 3) (N := some 44) (v := ?_) (a' := ?_) #[false, true, false, true, false, false, false, false] rfl rfl (any_of HT_.out Z0) (fun _ _ _ h => h) (Or.inl ⟨by rfl, ?_⟩) ?_ ?_
    rotate_left
    ·intro w'
     go_simp
     with_reducible rfl
    rotate_left
    ·simp only [Act.put, List.setIfInBounds_toArray, List.set_cons_zero, List.set_cons_succ, i64_w, i32_w]
     rfl
    refine take_ (i := 2) (N := some 43) (v := ?_) (a' := ?_) #[false, true, true, true, false, false, false, false] rfl rfl (take_ofW HT_.out HW_.out Z0) (fun _ _ _ h => h) (Or.inl ⟨by rfl, ?_⟩) hHeld ?_ ?_
    rotate_left
    ·rintro w' ⟨s0, s1, s2⟩
     go_simp
     with_reducible rfl
    rotate_left
    ·simp only [Act.put, List.setIfInBounds_toArray, List.set_cons_zero, List.set_cons_succ, i64_w, i32_w]
     rfl
    refine take_ (i := 4) (N := some 45) (v := ?_) (a' := ?_) #[false, true, true, true, true, false, false, false] rfl rfl (take_ofW HT_.out HW_.out Z0) (fun _ _ _ h => h) (Or.inl ⟨by rfl, ?_⟩) hHeld ?_ ?_
    rotate_left
    ·rintro w' ⟨s0, s1, s2⟩
     go_simp
     with_reducible rfl
    rotate_left
    ·simp only [Act.put, List.setIfInBounds_toArray, List.set_cons_zero, List.set_cons_succ, i64_w, i32_w]
     rfl
    refine pure_ (i := 5) (N := some 46) (v := ?_) (a' := ?_) #[false, true, true, true, true, true, false, false] rfl rfl (any_of HT_.out Z0) (fun _ _ _ h => h) (Or.inl ⟨by rfl, ?_⟩) ?_ ?_
    rotate_left
    ·intro w'
     go_simp
     with_reducible rfl
    rotate_left
    ·simp only [Act.put, List.setIfInBounds_toArray, List.set_cons_zero, List.set_cons_succ, i64_w, i32_w]
     rfl
    refine one_ (i := 0) (N := some 41) #[true, true, true, true, true, true, false, false] rfl rfl (one_of HT_.out Z0) (by decide) (fun K hK => ?_)
    refine Kd.R_lit_step (Kd.int .u32) _ 44 ?hg (N := 41) ?hd (xs := ([] : List Int)) (inner := []) (ok := fun _ => True) (okp := fun _ => True) ?hr ?hp (fun _ hk => hk) trivial (Below.refl _ _) (Nat.le_refl _) (by simp) ?_; (case hd => rfl); (case hg => rfl); (case hr => exact Z4); (case hp => exact (Reps.none _ _))
    intro v681 w60 ho61 hb hg_ hnew_; clear hg_ hnew_
    (first | rw [← Ny680.out] at ho61 | (simp only [Int.reduceToNat] at ho61; rw [← Ny680.out] at ho61))
    have n0_ := Z (Kd.R_below (Z6 HO_4) hb); have n1_ := Z (Kd.R_below (Z6 HO_5) hb); have n2_ := Z (Kd.R_lower ho61 (below_size Z90)); have n3_ := Z (Yk10 BK651 hb); have n4_ := Z (Yk10 BK662 hb); have n5_ := Z (Yk10 BK669 hb); have n6_ := Z (below_step Z90 hb); clear HO_4; clear HO_5; clear BK651; clear BK662; clear BK669; clear HB; have HO_4 := n0_; have HO_5 := n1_; have HO682 := n2_; have BK651 := n3_; have BK662 := n4_; have BK669 := n5_; have HB := n6_; clear n0_ n1_ n2_ n3_ n4_ n5_ n6_; clear hb ho61; refine hK.out _ _ ⟨(blk_cell BK662.out 0).trans rfl, (blk_cell BK662.out 1).trans rfl, (blk_cell BK662.out 2).trans rfl⟩ (fun hHeld => ?_)
    clear hK K; refine norm_ (a' := ?_) ?_ ?_
    rotate_left
    ·show Act.put _ (some 41) _ = _
     simp only [Act.put, List.setIfInBounds_toArray, List.set_cons_zero, List.set_cons_succ, i64_w, i32_w]
     rfl
    refine pure_ (i := 6) (N := some 2) (v := ?_) (a' := ?_) #[true, true, true, true, true, true, true, false] rfl rfl (any_of HT_.out Z0) (fun _ _ _ h => h) (Or.inl ⟨by rfl, ?_⟩) ?_ ?_
    rotate_left
    ·intro w'
     go_simp
     with_reducible rfl
    rotate_left
    ·simp only [Act.put, List.setIfInBounds_toArray, List.set_cons_zero, List.set_cons_succ, i64_w, i32_w]
     rfl
    refine one_ (i := 7) (N := none) #[true, true, true, true, true, true, true, true] rfl rfl (one_of HT_.out Z0) (by decide) (fun K hK => ?_)
    have hs62 : w60.cell? ⟨gb651, 0, none⟩ = some (.int .i64 x652000_1) := (blk_cell BK651.out 0).trans rfl; have hfs62 := blk_frozen BK651.out 0; have hns62_1 := NB662_651.out; have hns62_2 := NB669_651.out; have hms62_1 := NB651_662.out; have hms62_2 := NB651_669.out; have hs63 : w60.cell? ⟨gb651, 1, none⟩ = some (.int .i64 x652001_1) := (blk_cell BK651.out 1).trans rfl; have hfs63 := blk_frozen BK651.out 1; have hns63_1 := NB662_651.out; have hns63_2 := NB669_651.out; have hms63_1 := NB651_662.out; have hms63_2 := NB651_669.out; have hs64 : w60.cell? ⟨gb651, 2, none⟩ = some (.int .i64 x652002_1) := (blk_cell BK651.out 2).trans rfl; have hfs64 := blk_frozen BK651.out 2; have hns64_1 := NB662_651.out; have hns64_2 := NB669_651.out; have hms64_1 := NB651_662.out; have hms64_2 := NB651_669.out; refine skip_ (w1 := ?_) (by rfl) rfl ?_ ?_
    rotate_left
    ·go_simp
     rfl
    refine hK.out _ _ ⟨((cell_far (p := ⟨gb651, _, none⟩) NB662_651.out _).trans (((cell_far (p := ⟨gb651, _, none⟩) NB662_651.out _).trans (((cell_far (p := ⟨gb651, _, none⟩) NB662_651.out _).trans (hHeld.1)))))), ((cell_far (p := ⟨gb651, _, none⟩) NB662_651.out _).trans (((cell_far (p := ⟨gb651, _, none⟩) NB662_651.out _).trans (((cell_far (p := ⟨gb651, _, none⟩) NB662_651.out _).trans (hHeld.2.1)))))), ((cell_far (p := ⟨gb651, _, none⟩) NB662_651.out _).trans (((cell_far (p := ⟨gb651, _, none⟩) NB662_651.out _).trans (((cell_far (p := ⟨gb651, _, none⟩) NB662_651.out _).trans (hHeld.2.2))))))⟩ (fun hHeld => ?_)
    clear hK K; refine done_ (done_of HT_.out Z0) ?_
    try go_wp2
    refine bodyPost_ret (results_tc rfl _ _ gb651 28 #[.int .i64 2, .int .i64 ((rd_T68 t655 x6_1).f1), .int .i64 ((rd_T68 t655 x6_1).f2)] (0, 0) _ rfl (by (with_reducible repeat (first | refine blk_drewN ?_ _ | refine blk_drew ?_ | refine blk_alloc ?_ _)); refine blk_put (cs := #[.int .i64 2, .int .i64 ((rd_T68 t655 x6_1).f1), .int .i64 x652002_1]) ?_ 2 _ rfl; (with_reducible repeat (first | refine blk_drewN ?_ _ | refine blk_drew ?_ | refine blk_alloc ?_ _)); refine blk_put (cs := #[.int .i64 2, .int .i64 x652001_1, .int .i64 x652002_1]) ?_ 1 _ rfl; (with_reducible repeat (first | refine blk_drewN ?_ _ | refine blk_drew ?_ | refine blk_alloc ?_ _)); refine blk_put (cs := #[.int .i64 x652000_1, .int .i64 x652001_1, .int .i64 x652002_1]) ?_ 0 _ rfl; (with_reducible repeat (first | refine blk_drewN ?_ _ | refine blk_drew ?_ | refine blk_alloc ?_ _)); exact BK651.out) Tryz.underlying28 rfl Z0) rfl ?_
    exact ⟨_, Z91, by (with_reducible repeat (first | apply Kd.R_alloc | apply Kd.R_drewN | apply Kd.R_drew)); exact Kd.R_mono (Kd.R_far (p := ⟨gb651, 2, none⟩) (Kd.R_far (p := ⟨gb651, 1, none⟩) (Kd.R_far (p := ⟨gb651, 0, none⟩) (Kd.R_types HO682.out BK651.out (by decide)) (fun _ hk => hk.2) (.int .i64 2)) (fun _ hk => hk.2) (.int .i64 ((rd_T68 t655 x6_1).f1))) (fun _ hk => hk.2) (.int .i64 ((rd_T68 t655 x6_1).f2))) (fun _ hk => trivial), Z90⟩
   have c12b0 := decide_eq_false c12; clear c12; replace H := Yd H; obtain ⟨t683, A65, H⟩ := H; (try dsimp only at H); by_cases c66 : t683 = true
   ·subst c66; replace H := Yt H; replace H := Yd H; obtain ⟨⟨t684, t685⟩, A67, H⟩ := H; (try dsimp only at H); simp only [Option.some.injEq, Prod.mk.injEq] at H; obtain ⟨rfl, rfl, rfl, rfl⟩ := H; obtain ⟨Ao68, co68, eo68⟩ := Kd.R_slice HO_4.out; subst eo68; obtain ⟨Ao69, co69, eo69⟩ := Kd.R_slice HO_5.out; subst eo69
    go_wp2_with (first | ((with_reducible refine gate_callee (f := 35) rfl ?_); refine goesL_ (some 65) rfl rfl Tryz.func35 Z0 rfl #[.slice Ao69 x5_1.length co69] rfl Z8 ?_; (with_reducible refine (spec_ListOk.calls k1 _ _ x5_1 true _ ?side1 ?side2 A65.out).mono ?_); (case side1 => exact (Z30 HO_5)); (case side2 => exact (Kd.R_reads' HO_5.out).2.1); rintro e w70 ⟨rfl, hb⟩; refine ⟨_, rfl, ?_⟩; replace HO_4 := Z (Kd.R_below (Z6 HO_4) hb); replace HO_5 := Z (Kd.R_below (Z6 HO_5) hb); replace BK651 := Z (Yk10 BK651 hb); replace HB := Z (below_step Z90 hb); (try clear hb); (try clear hb2); (try clear hk); (try clear hi)) | ((with_reducible refine gate_callee (f := 34) rfl ?_); refine goesL_ (some 81) rfl rfl Tryz.func34 Z0 rfl #[.slice Ao69 x5_1.length co69] rfl Z8 ?_; (with_reducible refine (spec_Unparse.calls k1 _ _ x5_1 t684 t685 _ ?side1 ?side2 A67.out).mono ?_); (case side1 => exact (Z30 HO_5)); (case side2 => exact (Kd.R_reads' HO_5.out).2.1); rintro e w71 ⟨v686, rfl, ho0, hb⟩; refine ⟨_, rfl, ?_⟩; replace HO_4 := Z (Kd.R_below (Z6 HO_4) hb); replace HO_5 := Z (Kd.R_below (Z6 HO_5) hb); have HO687 := Z (Kd.R_lower ho0 (below_size Z90)); replace BK651 := Z (Yk10 BK651 hb); replace HB := Z (below_step Z90 hb); (try clear hb); (try clear hb2); (try clear hk); (try clear hi); (try clear ho0); have hcz72 := Yb3 BK651.out))
    refine bodyPost_ret (results_tc rfl _ _ gb651 28 #[.int .i64 0, .int .i64 0, .int .i64 0] (0, 0) _ rfl (by (with_reducible repeat (first | refine blk_drewN ?_ _ | refine blk_drew ?_ | refine blk_alloc ?_ _)); refine blk_put (cs := #[.int .i64 0, .int .i64 0, .int .i64 x652002_1]) ?_ 2 _ rfl; (with_reducible repeat (first | refine blk_drewN ?_ _ | refine blk_drew ?_ | refine blk_alloc ?_ _)); refine blk_put (cs := #[.int .i64 0, .int .i64 x652001_1, .int .i64 x652002_1]) ?_ 1 _ rfl; (with_reducible repeat (first | refine blk_drewN ?_ _ | refine blk_drew ?_ | refine blk_alloc ?_ _)); refine blk_put (cs := #[.int .i64 x652000_1, .int .i64 x652001_1, .int .i64 x652002_1]) ?_ 0 _ rfl; (with_reducible repeat (first | refine blk_drewN ?_ _ | refine blk_drew ?_ | refine blk_alloc ?_ _)); exact BK651.out) Tryz.underlying28 rfl Z0) rfl ?_
    exact ⟨_, Z91, by (with_reducible repeat (first | apply Kd.R_alloc | apply Kd.R_drewN | apply Kd.R_drew)); exact Kd.R_mono (Kd.R_far (p := ⟨gb651, 2, none⟩) (Kd.R_far (p := ⟨gb651, 1, none⟩) (Kd.R_far (p := ⟨gb651, 0, none⟩) (Kd.R_types HO687.out BK651.out (by decide)) (fun _ hk => hk.2) (.int .i64 0)) (fun _ hk => hk.2) (.int .i64 0)) (fun _ hk => hk.2) (.int .i64 0)) (fun _ hk => trivial), Z90⟩
   replace c66 := Bool.eq_false_iff.mpr c66; subst c66; replace H := Yf H; obtain ⟨ji73, hji73⟩ : ∃ j_ : Int, (wrap64 ((t655.length : Int) - 1)) = j_ := ⟨_, rfl⟩; replace H : (if 0 ≤ (ji73) then (if (ji73) < (t655.length : Int) then (some ((([] : List Int)), 4, (rd_T68 t655 (ji73)).f1, (rd_T68 t655 (ji73)).f2)) else (none)) else (none)) = some (r1, r2, r3, r4) := by first | (rw [hji73] at H; exact H) | (simp only [hji73] at H ⊢; exact H)
   (try rw [hji73] at A65)
   have hji73w : (IntKind.i64.wrap ((t655.length : Int) - 1)) = ji73 := (i64_w _).trans hji73; replace H := Yg H; obtain ⟨c74, H⟩ := H; have c74b0 := decide_eq_true c74; clear c74; replace H := Yg H; obtain ⟨c75, H⟩ := H; have c75b0 := decide_eq_true c75; clear c75; obtain ⟨y690, hy690⟩ : ∃ y_ : List Int, y_ = (([] : List Int)) := ⟨_, rfl⟩; replace H : (some (y690, 4, (rd_T68 t655 (ji73)).f1, (rd_T68 t655 (ji73)).f2)) = some (r1, r2, r3, r4) := Yy hy690 H; have Ny690 := Aside0.mk hy690; clear hy690; simp only [Option.some.injEq, Prod.mk.injEq] at H; obtain ⟨rfl, rfl, rfl, rfl⟩ := H; obtain ⟨Ao76, co76, eo76⟩ := Kd.R_slice HO_4.out; subst eo76; obtain ⟨Ao77, co77, eo77⟩ := Kd.R_slice HO_5.out; subst eo77
   try go_wp2_with (first | ((with_reducible refine gate_callee (f := 35) rfl ?_); refine goesL_ (some 65) rfl rfl Tryz.func35 Z0 rfl #[.slice Ao77 x5_1.length co77] rfl Z8 ?_; (with_reducible refine (spec_ListOk.calls k1 _ _ x5_1 false _ ?side1 ?side2 A65.out).mono ?_); (case side1 => exact (Z30 HO_5)); (case side2 => exact (Kd.R_reads' HO_5.out).2.1); rintro e w78 ⟨rfl, hb⟩; refine ⟨_, rfl, ?_⟩; replace HO_4 := Z (Kd.R_below (Z6 HO_4) hb); replace HO_5 := Z (Kd.R_below (Z6 HO_5) hb); replace BK651 := Z (Yk10 BK651 hb); replace HB := Z (below_step Z90 hb); (try clear hb); (try clear hb2); (try clear hk); (try clear hi); have p688 : 0 ≤ ((ji73) : Int) := of_decide_eq_true Z7; have q688 : (ji73) < (t655.length : Int) := of_decide_eq_true Z7; obtain ⟨ad688, e688, hx688_0, hx688_1, hx688_2⟩ := at_T68 (Kd.R_reads' HO_4.out).2.2 (ji73) p688 q688; cases e688; replace p688 := eq_true p688; replace q688 := eq_true q688) | ((with_reducible refine gate_dst (N := 12) rfl ?_); refine box_event (by rfl) (N := 12) (by rfl) (cs := #[.string (⟨#[]⟩ : ByteArray), .int .i64 0, .int .i64 0]) (t := 68) Z4 ?_; intro gb689 hg w79 hbox hb; replace HO_4 := Z (Kd.R_below (Kd.R_elderB (Z6 HO_4) gb689 (Nat.le_of_eq hg.symm)) hb); replace HO_5 := Z (Kd.R_below (Z6 HO_5) hb); have BK689 := Z (hbox); have GW689 := Z ((Z124 : w.heap.size ≤ gb689)); have GE689 := Z ((Z124 : w.heap.size ≤ gb689)); replace HB := Z (below_step Z90 hb); have NB651_689 := Z ((Z116 : gb651 ≠ gb689)); have NB689_651 := Z ((Z117 : gb689 ≠ gb651)); replace BK651 := Z (Yk10 BK651 hb); clear hb hbox hg; have hnb80 := NB689_651.out; have hnc80 := NB651_689.out; have hcz81 := Yb3 BK689.out))
   have n0_ : Aside0 (Kd.R k68 68 (((w79.setCell ⟨gb689, 0, none⟩ (.string ((rd_T68 t655 (ji73)).f0))).setCell ⟨gb689, 1, none⟩ (.int .i64 ((rd_T68 t655 (ji73)).f1))).setCell ⟨gb689, 2, none⟩ (.int .i64 ((rd_T68 t655 (ji73)).f2))) w.heap.size (fun k_ => k_ ≠ gb689) (.slice (some ad688) t655.length co76) t655) := ⟨by (with_reducible repeat (first | apply Kd.R_alloc | apply Kd.R_drewN | apply Kd.R_drew)); exact Kd.R_mono (Kd.R_far (p := ⟨gb689, 2, none⟩) (Kd.R_far (p := ⟨gb689, 1, none⟩) (Kd.R_far (p := ⟨gb689, 0, none⟩) (Kd.R_mono HO_4.out (fun k_ hk => (⟨hk, hk.2⟩ : _ ∧ k_ ≠ gb689))) (fun _ hk => hk.2) (.string ((rd_T68 t655 (ji73)).f0))) (fun _ hk => hk.2) (.int .i64 ((rd_T68 t655 (ji73)).f1))) (fun _ hk => hk.2) (.int .i64 ((rd_T68 t655 (ji73)).f2))) (fun _ hk => hk.1.2)⟩; have n1_ : Aside0 (Kd.R k46 46 (((w79.setCell ⟨gb689, 0, none⟩ (.string ((rd_T68 t655 (ji73)).f0))).setCell ⟨gb689, 1, none⟩ (.int .i64 ((rd_T68 t655 (ji73)).f1))).setCell ⟨gb689, 2, none⟩ (.int .i64 ((rd_T68 t655 (ji73)).f2))) w.heap.size (fun _ => True) (.slice Ao77 x5_1.length co77) x5_1) := ⟨by (with_reducible repeat (first | apply Kd.R_alloc | apply Kd.R_drewN | apply Kd.R_drew)); exact Kd.R_mono (Kd.R_far (p := ⟨gb689, 2, none⟩) (Kd.R_far (p := ⟨gb689, 1, none⟩) (Kd.R_far (p := ⟨gb689, 0, none⟩) (Kd.R_types HO_5.out BK689.out (by decide)) (fun _ hk => hk.2) (.string ((rd_T68 t655 (ji73)).f0))) (fun _ hk => hk.2) (.int .i64 ((rd_T68 t655 (ji73)).f1))) (fun _ hk => hk.2) (.int .i64 ((rd_T68 t655 (ji73)).f2))) (fun _ hk => trivial)⟩; have n2_ : Aside0 ((((w79.setCell ⟨gb689, 0, none⟩ (.string ((rd_T68 t655 (ji73)).f0))).setCell ⟨gb689, 1, none⟩ (.int .i64 ((rd_T68 t655 (ji73)).f1))).setCell ⟨gb689, 2, none⟩ (.int .i64 ((rd_T68 t655 (ji73)).f2))).heap[gb651]? = some (.cells #[.int .i64 x652000_1, .int .i64 x652001_1, .int .i64 x652002_1] 28 (0, 0))) := ⟨by (with_reducible repeat (first | refine blk_drewN ?_ _ | refine blk_drew ?_ | refine blk_alloc ?_ _)); refine blk_far ?_ NB651_689.out _; (with_reducible repeat (first | refine blk_drewN ?_ _ | refine blk_drew ?_ | refine blk_alloc ?_ _)); refine blk_far ?_ NB651_689.out _; (with_reducible repeat (first | refine blk_drewN ?_ _ | refine blk_drew ?_ | refine blk_alloc ?_ _)); refine blk_far ?_ NB651_689.out _; (with_reducible repeat (first | refine blk_drewN ?_ _ | refine blk_drew ?_ | refine blk_alloc ?_ _)); exact BK651.out⟩; have n3_ : Aside0 ((((w79.setCell ⟨gb689, 0, none⟩ (.string ((rd_T68 t655 (ji73)).f0))).setCell ⟨gb689, 1, none⟩ (.int .i64 ((rd_T68 t655 (ji73)).f1))).setCell ⟨gb689, 2, none⟩ (.int .i64 ((rd_T68 t655 (ji73)).f2))).heap[gb689]? = some (.cells #[.string ((rd_T68 t655 (ji73)).f0), .int .i64 ((rd_T68 t655 (ji73)).f1), .int .i64 ((rd_T68 t655 (ji73)).f2)] 68 (0, 0))) := ⟨by (with_reducible repeat (first | refine blk_drewN ?_ _ | refine blk_drew ?_ | refine blk_alloc ?_ _)); refine blk_put (cs := #[.string ((rd_T68 t655 (ji73)).f0), .int .i64 ((rd_T68 t655 (ji73)).f1), .int .i64 0]) ?_ 2 _ rfl; (with_reducible repeat (first | refine blk_drewN ?_ _ | refine blk_drew ?_ | refine blk_alloc ?_ _)); refine blk_put (cs := #[.string ((rd_T68 t655 (ji73)).f0), .int .i64 0, .int .i64 0]) ?_ 1 _ rfl; (with_reducible repeat (first | refine blk_drewN ?_ _ | refine blk_drew ?_ | refine blk_alloc ?_ _)); refine blk_put (cs := #[.string (⟨#[]⟩ : ByteArray), .int .i64 0, .int .i64 0]) ?_ 0 _ rfl; (with_reducible repeat (first | refine blk_drewN ?_ _ | refine blk_drew ?_ | refine blk_alloc ?_ _)); exact BK689.out⟩; have n4_ : Aside0 (Below w.heap.size w (((w79.setCell ⟨gb689, 0, none⟩ (.string ((rd_T68 t655 (ji73)).f0))).setCell ⟨gb689, 1, none⟩ (.int .i64 ((rd_T68 t655 (ji73)).f1))).setCell ⟨gb689, 2, none⟩ (.int .i64 ((rd_T68 t655 (ji73)).f2)))) := ⟨Z90⟩
   (try clear HO_4)
   (try clear HO_5)
   (try clear BK651)
   (try clear BK689)
   (try clear HB)
   (try rw [show ∀ (W_ : World) (n_ : Nat) (p_ : Addr) (v_ : Value), (W_.drewN n_).setCell p_ v_ = (W_.setCell p_ v_).drewN n_ from fun _ _ _ _ => rfl])
   generalize (((w79.setCell ⟨gb689, 0, none⟩ (.string ((rd_T68 t655 (ji73)).f0))).setCell ⟨gb689, 1, none⟩ (.int .i64 ((rd_T68 t655 (ji73)).f1))).setCell ⟨gb689, 2, none⟩ (.int .i64 ((rd_T68 t655 (ji73)).f2))) = w82 at n0_ n1_ n2_ n3_ n4_ ⊢; have HO_4 := n0_; have HO_5 := n1_; have BK651 := n2_; have BK689 := n3_; have HB := n4_; clear n0_ n1_ n2_ n3_ n4_; have n0_ := Z (Kd.R_drew HO_4.out); have n1_ := Z (Kd.R_drew HO_5.out); have n2_ := Z (blk_drew BK651.out); have n3_ := Z (blk_drew BK689.out); have n4_ := Z (below_drew1 HB.out); clear HO_4; clear HO_5; clear BK651; clear BK689; clear HB; have HO_4 := n0_; have HO_5 := n1_; have BK651 := n2_; have BK689 := n3_; have HB := n4_; clear n0_ n1_ n2_ n3_ n4_; refine start_ (n := 8) (S := fun w' => w'.cell? ⟨gb689, 0, none⟩ = some (.string ((rd_T68 t655 (ji73)).f0)) ∧ w'.cell? ⟨gb689, 1, none⟩ = some (.int .i64 ((rd_T68 t655 (ji73)).f1)) ∧ w'.cell? ⟨gb689, 2, none⟩ = some (.int .i64 ((rd_T68 t655 (ji73)).f2))) (ds := []) #[false, false, false, false, false, false, false, false] Z0 rfl rfl ⟨(blk_cell BK689.out 0).trans rfl, (blk_cell BK689.out 1).trans rfl, (blk_cell BK689.out 2).trans rfl⟩ (fun hHeld => ?_); refine with_tabW spec_Import.tab18 spec_Import.bits18 (fun HT_ HW_ => ?_)
   generalize w82.drew = w83 at HO_4 HO_5 BK651 BK689 HB hHeld ⊢; refine pure_ (i := 1) (N := some 74) (v := ?_) (a' := ?_) #[false, true, false, false, false, false, false, false] rfl rfl (any_of HT_.out Z0) (fun _ _ _ h => h) (Or.inl ⟨by rfl, ?_⟩) ?_ ?_
   rotate_left
   ·intro w'
    go_simp
    with_reducible rfl
   rotate_left
   ·simp only [Act.put, List.setIfInBounds_toArray, List.set_cons_zero, List.set_cons_succ, i64_w, i32_w]
    rfl
   refine pure_ (i := 3) (N := some 76) (v := ?_) (a' := ?_) #[false, true, false, true, false, false, false, false] rfl rfl (any_of HT_.out Z0) (fun _ _ _ h => h) (Or.inl ⟨by rfl, ?_⟩) ?_ ?_
   rotate_left
   ·intro w'
    go_simp
    with_reducible rfl
   rotate_left
   ·simp only [Act.put, List.setIfInBounds_toArray, List.set_cons_zero, List.set_cons_succ, i64_w, i32_w]
    rfl
   refine take_ (i := 2) (N := some 75) (v := ?_) (a' := ?_) #[false, true, true, true, false, false, false, false] rfl rfl (take_ofW HT_.out HW_.out Z0) (fun _ _ _ h => h) (Or.inl ⟨by rfl, ?_⟩) hHeld ?_ ?_
   rotate_left
   ·rintro w' ⟨s0, s1, s2⟩
    go_simp
    with_reducible rfl
   rotate_left
   ·simp only [Act.put, List.setIfInBounds_toArray, List.set_cons_zero, List.set_cons_succ, i64_w, i32_w]
    rfl
   refine take_ (i := 4) (N := some 77) (v := ?_) (a' := ?_) #[false, true, true, true, true, false, false, false] rfl rfl (take_ofW HT_.out HW_.out Z0) (fun _ _ _ h => h) (Or.inl ⟨by rfl, ?_⟩) hHeld ?_ ?_
   rotate_left
   ·rintro w' ⟨s0, s1, s2⟩
    go_simp
    with_reducible rfl
   rotate_left
   ·simp only [Act.put, List.setIfInBounds_toArray, List.set_cons_zero, List.set_cons_succ, i64_w, i32_w]
    rfl
   refine pure_ (i := 5) (N := some 78) (v := ?_) (a' := ?_) #[false, true, true, true, true, true, false, false] rfl rfl (any_of HT_.out Z0) (fun _ _ _ h => h) (Or.inl ⟨by rfl, ?_⟩) ?_ ?_
   rotate_left
   ·intro w'
    go_simp
    with_reducible rfl
   rotate_left
   ·simp only [Act.put, List.setIfInBounds_toArray, List.set_cons_zero, List.set_cons_succ, i64_w, i32_w]
    rfl
   refine one_ (i := 0) (N := some 73) #[true, true, true, true, true, true, false, false] rfl rfl (one_of HT_.out Z0) (by decide) (fun K hK => ?_)
   refine Kd.R_lit_step (Kd.int .u32) _ 44 ?hg (N := 73) ?hd (xs := ([] : List Int)) (inner := []) (ok := fun _ => True) (okp := fun _ => True) ?hr ?hp (fun _ hk => hk) trivial (Below.refl _ _) (Nat.le_refl _) (by simp) ?_; (case hd => rfl); (case hg => rfl); (case hr => exact Z4); (case hp => exact (Reps.none _ _))
   intro v691 w84 ho85 hb hg_ hnew_; clear hg_ hnew_
   (first | rw [← Ny690.out] at ho85 | (simp only [Int.reduceToNat] at ho85; rw [← Ny690.out] at ho85))
   have n0_ := Z (Kd.R_below (Z6 HO_4) hb); have n1_ := Z (Kd.R_below (Z6 HO_5) hb); have n2_ := Z (Kd.R_lower ho85 (below_size Z90)); have n3_ := Z (Yk10 BK651 hb); have n4_ := Z (Yk10 BK689 hb); have n5_ := Z (below_step Z90 hb); clear HO_4; clear HO_5; clear BK651; clear BK689; clear HB; have HO_4 := n0_; have HO_5 := n1_; have HO692 := n2_; have BK651 := n3_; have BK689 := n4_; have HB := n5_; clear n0_ n1_ n2_ n3_ n4_ n5_; clear hb ho85; refine hK.out _ _ ⟨(blk_cell BK689.out 0).trans rfl, (blk_cell BK689.out 1).trans rfl, (blk_cell BK689.out 2).trans rfl⟩ (fun hHeld => ?_)
   clear hK K; refine norm_ (a' := ?_) ?_ ?_
   rotate_left
   ·show Act.put _ (some 73) _ = _
    simp only [Act.put, List.setIfInBounds_toArray, List.set_cons_zero, List.set_cons_succ, i64_w, i32_w]
    rfl
   refine pure_ (i := 6) (N := some 2) (v := ?_) (a' := ?_) #[true, true, true, true, true, true, true, false] rfl rfl (any_of HT_.out Z0) (fun _ _ _ h => h) (Or.inl ⟨by rfl, ?_⟩) ?_ ?_
   rotate_left
   ·intro w'
    go_simp
    with_reducible rfl
   rotate_left
   ·simp only [Act.put, List.setIfInBounds_toArray, List.set_cons_zero, List.set_cons_succ, i64_w, i32_w]
    rfl
   refine one_ (i := 7) (N := none) #[true, true, true, true, true, true, true, true] rfl rfl (one_of HT_.out Z0) (by decide) (fun K hK => ?_)
   have hs86 : w84.cell? ⟨gb651, 0, none⟩ = some (.int .i64 x652000_1) := (blk_cell BK651.out 0).trans rfl; have hfs86 := blk_frozen BK651.out 0; have hns86_1 := NB689_651.out; have hms86_1 := NB651_689.out; have hs87 : w84.cell? ⟨gb651, 1, none⟩ = some (.int .i64 x652001_1) := (blk_cell BK651.out 1).trans rfl; have hfs87 := blk_frozen BK651.out 1; have hns87_1 := NB689_651.out; have hms87_1 := NB651_689.out; have hs88 : w84.cell? ⟨gb651, 2, none⟩ = some (.int .i64 x652002_1) := (blk_cell BK651.out 2).trans rfl; have hfs88 := blk_frozen BK651.out 2; have hns88_1 := NB689_651.out; have hms88_1 := NB651_689.out; refine skip_ (w1 := ?_) (by rfl) rfl ?_ ?_
   rotate_left
   ·go_simp
    rfl
   refine hK.out _ _ ⟨((cell_far (p := ⟨gb651, _, none⟩) NB689_651.out _).trans (((cell_far (p := ⟨gb651, _, none⟩) NB689_651.out _).trans (((cell_far (p := ⟨gb651, _, none⟩) NB689_651.out _).trans (hHeld.1)))))), ((cell_far (p := ⟨gb651, _, none⟩) NB689_651.out _).trans (((cell_far (p := ⟨gb651, _, none⟩) NB689_651.out _).trans (((cell_far (p := ⟨gb651, _, none⟩) NB689_651.out _).trans (hHeld.2.1)))))), ((cell_far (p := ⟨gb651, _, none⟩) NB689_651.out _).trans (((cell_far (p := ⟨gb651, _, none⟩) NB689_651.out _).trans (((cell_far (p := ⟨gb651, _, none⟩) NB689_651.out _).trans (hHeld.2.2))))))⟩ (fun hHeld => ?_)
   clear hK K; refine done_ (done_of HT_.out Z0) ?_
   try go_wp2
   refine bodyPost_ret (results_tc rfl _ _ gb651 28 #[.int .i64 4, .int .i64 ((rd_T68 t655 (ji73)).f1), .int .i64 ((rd_T68 t655 (ji73)).f2)] (0, 0) _ rfl (by (with_reducible repeat (first | refine blk_drewN ?_ _ | refine blk_drew ?_ | refine blk_alloc ?_ _)); refine blk_put (cs := #[.int .i64 4, .int .i64 ((rd_T68 t655 (ji73)).f1), .int .i64 x652002_1]) ?_ 2 _ rfl; (with_reducible repeat (first | refine blk_drewN ?_ _ | refine blk_drew ?_ | refine blk_alloc ?_ _)); refine blk_put (cs := #[.int .i64 4, .int .i64 x652001_1, .int .i64 x652002_1]) ?_ 1 _ rfl; (with_reducible repeat (first | refine blk_drewN ?_ _ | refine blk_drew ?_ | refine blk_alloc ?_ _)); refine blk_put (cs := #[.int .i64 x652000_1, .int .i64 x652001_1, .int .i64 x652002_1]) ?_ 0 _ rfl; (with_reducible repeat (first | refine blk_drewN ?_ _ | refine blk_drew ?_ | refine blk_alloc ?_ _)); exact BK651.out) Tryz.underlying28 rfl Z0) rfl ?_
   exact ⟨_, by first | rfl | (rw [← show ∀ l_ : List UInt8, (!l_.isEmpty) = (l_ != []) from fun l_ => Z11]; rfl) | (simp [errW_none, errW_some] <;> rfl) | (simp only [← hji73]; first | rfl | (simp [errW_none, errW_some] <;> rfl)) | (simp [*, errW_none, errW_some] <;> rfl), by (with_reducible repeat (first | apply Kd.R_alloc | apply Kd.R_drewN | apply Kd.R_drew)); exact Kd.R_mono (Kd.R_far (p := ⟨gb651, 2, none⟩) (Kd.R_far (p := ⟨gb651, 1, none⟩) (Kd.R_far (p := ⟨gb651, 0, none⟩) (Kd.R_types HO692.out BK651.out (by decide)) (fun _ hk => hk.2) (.int .i64 4)) (fun _ hk => hk.2) (.int .i64 ((rd_T68 t655 (ji73)).f1))) (fun _ hk => hk.2) (.int .i64 ((rd_T68 t655 (ji73)).f2))) (fun _ hk => trivial), Z90⟩

def laws_eqUint32S.l0 : Nat → List Int → List Int → Int → Option (Bool)
 | 0, _, _, _ => none
 | k + 1, x0, x1, x5 => if x5 < (x0.length : Int) then (if 0 ≤ x5 then (if x5 < (x1.length : Int) then (if (rd x0 x5) = (rd x1 x5) then (laws_eqUint32S.l0 k x0 x1 (wrap64 (x5 + 1))) else (some false)) else (none)) else (none)) else (some true)
def laws_eqUint32S.f (k : Nat) (l0 : List Int) (l1 : List Int) : Option (Bool) := if (l0.length : Int) = (l1.length : Int) then (laws_eqUint32S.l0 k l0 l1 0) else (some false)
theorem laws_eqUint32S.calls (k : Nat) (A0 : Option Addr) (c0 : Nat) (l0 : List Int) (A1 : Option Addr) (c1 : Nat) (l1 : List Int) (r : Bool) (w : World) (hr0 : Kd.C (Kd.int .u32) w A0 l0.length l0) (hc0 : l0.length ≤ c0) (hr1 : Kd.C (Kd.int .u32) w A1 l1.length l1) (hc1 : l1.length ≤ c1) (h : laws_eqUint32S.f k l0 l1 = some r) :
  Calls Tryz.prog 13 #[.slice A0 l0.length c0, .slice A1 l1.length c1] w fun e w' => e = .returned (.bool r) ∧ Drawn0 w w' := by
 have HR0 := Aside0.mk hr0; have HC0 := Aside0.mk hc0; clear hr0 hc0; have HR1 := Aside0.mk hr1; have HC1 := Aside0.mk hc1; clear hr1 hc1; unfold laws_eqUint32S.f at h; have H := h; clear h; replace H := Yi H; rcases H with ⟨c3, H⟩ | ⟨c3, H⟩
 ·obtain ⟨c3b0, c3b1⟩ := Ye c3; have c3b2 : (l0.length == l1.length) = true := Z26; clear c3; have H' := Aside0.mk H; clear H; go_enter Tryz.func13, Tryz.ntmps13
  go_wp2
  repeat (go_quiet (fail); try go_wp2)
  go_loopg [5] k (fun kq v5 w' => ∃ (x5_1 : Int), v5 = .int .i64 x5_1 ∧ Aside0 (laws_eqUint32S.l0 kq l0 l1 x5_1 = some r) ∧ Aside0 (kq ≤ k) ∧ Drawn0 w w')
  case atStart => exact ⟨(0), Z2, H', ⟨Nat.le_refl _⟩, Z3⟩
  case round =>
   clear H'; (try clear c1); (try clear p2); (try clear c3); (try clear c3b0); (try clear c3b1); (try clear c3b2); obtain ⟨x5_1, rfl, HA, HK1, ⟨m1, rfl⟩⟩ := hrel
   cases gk with
   | zero => exact absurd HA.out (by simp [laws_eqUint32S.l0])
   | succ k1 =>
    have H := HA.out; clear HA; simp only [laws_eqUint32S.l0] at H; replace H := Yi H; rcases H with ⟨c4, H⟩ | ⟨c4, H⟩
    ·have c4b0 := decide_eq_true c4; clear c4; replace H := Yg H; obtain ⟨c5, H⟩ := H; have c5b0 := decide_eq_true c5; clear c5; replace H := Yg H; obtain ⟨c6, H⟩ := H; have c6b0 := decide_eq_true c6; clear c6; replace H := Yi H; rcases H with ⟨c7, H⟩ | ⟨c7, H⟩
     ·obtain ⟨c7b0, c7b1⟩ := Ye c7; clear c7; have H' := Aside0.mk H; clear H; have p693 : 0 ≤ (x5_1 : Int) := of_decide_eq_true Z7; have q693 : x5_1 < (l0.length : Int) := of_decide_eq_true Z7; obtain ⟨ad693, e693, hx693_0⟩ := Kd.at_int HR0.out x5_1 p693 q693
      cases e693
      replace p693 := eq_true p693; replace q693 := eq_true q693; have p694 : 0 ≤ (x5_1 : Int) := of_decide_eq_true Z7; have q694 : x5_1 < (l1.length : Int) := of_decide_eq_true Z7; obtain ⟨ad694, e694, hx694_0⟩ := Kd.at_int HR1.out x5_1 p694 q694
      cases e694
      replace p694 := eq_true p694; replace q694 := eq_true q694
      go_wp2
      repeat (go_quiet (fail); try go_wp2)
      go_roundg k1
      case measure => have := HK1.out; omega
      case rel => exact ⟨(wrap64 (x5_1 + 1)), Z2, H', ⟨Z9⟩, Z3⟩
     obtain ⟨c7b0, c7b1⟩ := Yn c7; obtain rfl := Option.some.inj H; have p693 : 0 ≤ (x5_1 : Int) := of_decide_eq_true Z7; have q693 : x5_1 < (l0.length : Int) := of_decide_eq_true Z7; obtain ⟨ad693, e693, hx693_0⟩ := Kd.at_int HR0.out x5_1 p693 q693
     cases e693
     replace p693 := eq_true p693; replace q693 := eq_true q693; have p694 : 0 ≤ (x5_1 : Int) := of_decide_eq_true Z7; have q694 : x5_1 < (l1.length : Int) := of_decide_eq_true Z7; obtain ⟨ad694, e694, hx694_0⟩ := Kd.at_int HR1.out x5_1 p694 q694
     cases e694
     replace p694 := eq_true p694; replace q694 := eq_true q694
     go_wp2
     repeat (go_quiet (fail); try go_wp2)
     go_ret
     exact ⟨Z2, Z3⟩
    have c4b0 := decide_eq_false c4; clear c4; obtain rfl := Option.some.inj H
    go_wp2
    repeat (go_quiet (fail); try go_wp2)
    go_ret
    exact ⟨Z2, Z3⟩
 obtain ⟨c3b0, c3b1⟩ := Yn c3; have c3b2 : (l0.length == l1.length) = false := Z26; obtain rfl := Option.some.inj H; go_enter Tryz.func13, Tryz.ntmps13
 go_wp2
 repeat (go_quiet (fail); try go_wp2)
 go_ret
 exact ⟨Z2, Z3⟩

end Go.Proofs.YtfjmpdcflnaogaaGreatDoor.QFnExactImport
