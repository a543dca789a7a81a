/-
Plain functions for the Go functions that a law reaches, each with a proof that the translation's call comes to just that; no conditions beyond those written in each.
-/
import Derived.Test.YtfjmpdcflnaogaaGreatDoorSFnNotes
import Derived.Test.YtfjmpdcflnaogaaGreatDoorQFnNotesx1
import Derived.Test.YtfjmpdcflnaogaaGreatDoorQFnNotesx2
import Derived.Test.YtfjmpdcflnaogaaGreatDoorQFnNotesx9
import Derived.Test.YtfjmpdcflnaogaaGreatDoorQFnNotesx3
import Derived.Test.YtfjmpdcflnaogaaGreatDoorQFnNotesx6
import Derived.Test.YtfjmpdcflnaogaaGreatDoorQFnNotesx8
namespace Go.Proofs.YtfjmpdcflnaogaaGreatDoor.QFnNotes
open Go.RowKit Go.Proofs.YtfjmpdcflnaogaaGreatDoorW.PrintWords Go.Proofs.YtfjmpdcflnaogaaGreatDoorW.PrintLast Go.Proofs.YtfjmpdcflnaogaaGreatDoorW.PrintMore
attribute [local go_sem] max2_int min2_int max_two min_two max_three min_three max_four min_four   -- for this text's walks alone
set_option linter.unusedVariables false
set_option maxHeartbeats 8000000
set_option maxRecDepth 100000
set_option linter.unusedSimpArgs false

theorem Yk10 {X W w1 : World} {g : Nat} {o : Obj} (h : Aside0 (X.heap[g]? = some o)) (hb : Below W.heap.size W w1) (e : X.heap[g]? = some o → W.heap[g]? = some o := by intro h_; repeat (first | (with_reducible exact h_) | (with_reducible first | refine blk_drewN ?_ _ | refine blk_drew ?_ | refine blk_alloc ?_ _) | refine blk_far ?_ (Aside0.out (by assumption)) _ | exact h_)) : w1.heap[g]? = some o := blk_below (e h.out) hb
attribute [local go_sem high] eqA46
mutual
def spec_ParseCells.l0 : Nat → List Int → List (S46) → Int → Option ((List (S46)))
 | 0, _, _, _ => none
 | k + 1, x0, x3, x4 => if x4 < (x0.length : Int) then ((spec_l04Item.f k x0 x4).bind fun bt740 => (if x3.length < 3518437208883 then (spec_ParseCells.l0 k x0 (x3 ++ [(⟨bt740.1, bt740.2.1, bt740.2.2.1, bt740.2.2.2.1, bt740.2.2.2.2.1⟩ : S46)]) (wrap64 (x4 + bt740.2.2.2.2.2))) else (none))) else (spec_ParseCells.l1 k x3)
def spec_ParseCells.l1 : Nat → List (S46) → Option ((List (S46)))
 | 0, _ => none
 | k + 1, x3 => if (x3.length : Int) > 0 then (if 0 ≤ (wrap64 ((x3.length : Int) - 1)) then (if (wrap64 ((x3.length : Int) - 1)) < (x3.length : Int) then (if (((rd_T46 x3 (wrap64 ((x3.length : Int) - 1))).f0) == 0 && ((((rd_T46 x3 (wrap64 ((x3.length : Int) - 1))).f1).toList) == ([] : List UInt8) && (((rd_T46 x3 (wrap64 ((x3.length : Int) - 1))).f2) == 0 && (!((rd_T46 x3 (wrap64 ((x3.length : Int) - 1))).f3) && (((rd_T46 x3 (wrap64 ((x3.length : Int) - 1))).f4) == 0))))) = true then (if (wrap64 ((x3.length : Int) - 1)) ≤ (x3.length : Int) then (spec_ParseCells.l1 k (x3.take ((wrap64 ((x3.length : Int) - 1)) : Int).toNat)) else (none)) else (some x3)) else (none)) else (none)) else (some x3)
end
def spec_ParseCells.f (k : Nat) (l0 : List Int) : Option ((List (S46))) := (some (([] : List (S46)) : List (S46))).bind fun y737 => (if (l0.length : Int) > 64 then (some y737) else (spec_ParseCells.l0 k l0 y737 0))
theorem spec_ParseCells.calls (k : Nat) (A0 : Option Addr) (c0 : Nat) (l0 : List Int) (r : List (S46)) (w : World) (hr0 : Kd.C (Kd.int .u32) w A0 l0.length l0) (hc0 : l0.length ≤ c0) (h : spec_ParseCells.f k l0 = some r) :
  Calls Tryz.prog 30 #[.slice A0 l0.length c0] w fun e w' => ∃ v0_ : Value, e = .returned (v0_) ∧ Kd.R k46 46 w' w.heap.size (fun _ => True) v0_ r ∧ Below w.heap.size w w' := by
 have hu46 := Tryz.underlying46; have HR0 := Aside0.mk hr0; have HC0 := Aside0.mk hc0; clear hr0 hc0; have HB := Z (Below.refl w.heap.size w); unfold spec_ParseCells.f at h; have H := h; clear h; obtain ⟨y737, hy737⟩ : ∃ y_ : List (S46), y_ = (([] : List (S46))) := ⟨_, rfl⟩; replace H : (if (l0.length : Int) > 64 then (some y737) else (spec_ParseCells.l0 k l0 y737 0)) = some r := Yy hy737 H; have Ny737 := Aside0.mk hy737; clear hy737; replace H := Yi H; rcases H with ⟨c2, H⟩ | ⟨c2, H⟩
 ·have c2b0 : decide (64 < (l0.length : Int)) = true := decide_eq_true c2; have c2b1 : decide (64 < l0.length) = true := decide_eq_true (by omega); clear c2; obtain rfl := Option.some.inj H; go_enter Tryz.func30, Tryz.ntmps30
  go_wp2_with (first | ((with_reducible refine gate_dst (N := 7) rfl ?_); (try (refine gate_guard (by rfl) ?_; dsimp only)); refine Kd.R_lit k46 _ 46 (by rfl) (N := 7) (by rfl) (xs := ([] : List (S46))) (inner := []) (ok := fun _ => True) (okp := fun _ => True) Z7 (Reps.none _ _) (fun _ hk => hk) trivial (Below.refl _ _) (Nat.le_refl _) (by simp) ?_; intro v738 w3 ho4 hb hg_ hnew_; clear hg_ hnew_; (first | rw [← Ny737.out] at ho4 | (simp only [Int.reduceToNat] at ho4; rw [← Ny737.out] at ho4)); have HO739 := Z (Kd.R_lower ho4 (below_size Z75)); replace HB := Z (below_step Z75 hb); clear hb ho4))
  go_ret
  exact ⟨_, Z76, (Z11 HO739), Z75⟩
 have c2b0 : decide (64 < (l0.length : Int)) = false := decide_eq_false c2; have c2b1 : decide (64 < l0.length) = false := decide_eq_false (by omega); clear c2; have H' := Aside0.mk H; clear H; go_enter Tryz.func30, Tryz.ntmps30
 go_wp2_with (first | ((with_reducible refine gate_dst (N := 7) rfl ?_); (try (refine gate_guard (by rfl) ?_; dsimp only)); refine Kd.R_lit k46 _ 46 (by rfl) (N := 7) (by rfl) (xs := ([] : List (S46))) (inner := []) (ok := fun _ => True) (okp := fun _ => True) Z7 (Reps.none _ _) (fun _ hk => hk) trivial (Below.refl _ _) (Nat.le_refl _) (by simp) ?_; intro v738 w5 ho6 hb hg_ hnew_; clear hg_ hnew_; (first | rw [← Ny737.out] at ho6 | (simp only [Int.reduceToNat] at ho6; rw [← Ny737.out] at ho6)); have HO739 := Z (Kd.R_lower ho6 (below_size Z75)); replace HB := Z (below_step Z75 hb); clear hb ho6))
 go_loopg [3, 4] k (fun kq v3 v4 w' => ∃ (x3_1 : List (S46)) (x4_1 : Int), v4 = .int .i64 x4_1 ∧ Aside0 (spec_ParseCells.l0 kq l0 x3_1 x4_1 = some r) ∧ Aside0 (kq ≤ k) ∧ Aside0 (Kd.R k46 46 w' w.heap.size (fun _ => True) v3 x3_1) ∧ Aside0 (Below w.heap.size w w'))
 case atStart => exact ⟨(y737), (0), Z2, H', ⟨Nat.le_refl _⟩, ⟨(Z11 HO739)⟩, ⟨Z75⟩⟩
 case round =>
  clear H'; (try clear c2); (try clear c2b0); (try clear c2b1); (try clear p2); (try clear c3); obtain ⟨x3_1, x4_1, rfl, HA, HK1, HO_3, HB⟩ := hrel
  cases gk with
  | zero => exact absurd HA.out (by simp [spec_ParseCells.l0])
  | succ k1 =>
   have H := HA.out; clear HA; simp only [spec_ParseCells.l0] at H; replace H := Yi H; rcases H with ⟨c7, H⟩ | ⟨c7, H⟩
   ·have c7b0 := decide_eq_true c7; clear c7; replace H := Yd H; obtain ⟨⟨t740, t741, t742, t743, t744, t745⟩, A8, H⟩ := H; (try dsimp only at H); replace H := Yg H; obtain ⟨c9, H⟩ := H; have LMc9 := Aside0.mk c9; clear c9; obtain ⟨y747, hy747⟩ : ∃ y_ : List (S46), y_ = (x3_1 ++ [(⟨t740, t741, t742, t743, t744⟩ : S46)]) := ⟨_, rfl⟩; replace H : (spec_ParseCells.l0 k1 l0 y747 (wrap64 (x4_1 + t745))) = some r := Yy hy747 H; have Ny747 := Aside0.mk hy747; clear hy747; have H' := Aside0.mk H; clear H
    go_wp2_with (first | ((with_reducible refine gate_callee (f := 56) rfl ?_); refine goesL_ (some 19) rfl rfl Tryz.func56 Z0 rfl #[.slice A0 l0.length c0, .int .i64 x4_1] rfl Z10 ?_; (with_reducible refine (spec_l04Item.calls k1 _ _ l0 x4_1 t740 t741 t742 t743 t744 t745 _ ?side1 ?side2 A8.out).mono ?_); (case side1 => exact (Z29 HR0)); (case side2 => exact HC0.out); rintro e w10 ⟨rfl, hb⟩; refine ⟨_, rfl, ?_⟩; replace HO_3 := Z (Kd.R_below (Z11 HO_3) hb); replace HB := Z (below_step Z75 hb); (try clear hb); (try clear hb2); (try clear hk); (try clear hi)) | ((with_reducible refine gate_dst (N := 5) rfl ?_); (try (refine gate_guard (by rfl) ?_; dsimp only)); refine box_event (by rfl) (N := 5) (by rfl) (cs := #[.int .i64 0, .string (⟨#[]⟩ : ByteArray), .int .i32 0, .bool false, .int .u32 0]) (t := 46) Z7 ?_; intro gb746 hg w11 hbox hb; replace HO_3 := Z (Kd.R_below (Kd.R_elderB (Z11 HO_3) gb746 (Nat.le_of_eq hg.symm)) hb); have BK746 := Z (hbox); have GW746 := Z ((Z99 : w.heap.size ≤ gb746)); have GE746 := Z ((Z99 : w.heap.size ≤ gb746)); replace HB := Z (below_step Z75 hb); clear hb hbox hg; have hcz12 := Yb5 BK746.out) | ((with_reducible refine gate_builtin (b := .append) (xs := #[.tmp 22, .tmp 24]) rfl ?_); (try (refine gate_guard (by rfl) ?_; dsimp only)); at_builtin; refine Kd.R_append k46 (w0 := w) w.heap.size rfl (.tmp 22) (.tmp 24) 42 46 (.agg #[(.int .i64 0), (.string ⟨#[]⟩), (.int .i32 0), (.bool false), (.int .u32 0)]) 40 rfl Tryz.underlying42 info46 rfl (by decide) (by omega) u3 x3_1 (⟨t740, t741, t742, t743, t744⟩ : S46) [.int .i64 t740, .string t741, .int .i32 t742, .bool t743, .int .u32 t744] (fun k_ => k_ ≠ gb746) (fun _ => False) rfl Z7 ?aP (fun _ hk => hk.elim) ?aF ?aO ?aB ?aS ?aL ?_; (case aP => exact k46_mkM _ _ _ (⟨t740, t741, t742, t743, t744⟩ : S46)); (case aB => exact Z75); (case aF => exact (fun k_ hk => Kd.freshB (g := gb746) (o := .cells #[.int .i64 t740, .string t741, .int .i32 t742, .bool t743, .int .u32 t744] 46 (0, 0)) (Z71 BK746) k_ hk)); (case aO => exact (by (with_reducible repeat (first | apply Kd.R_alloc | apply Kd.R_drewN | apply Kd.R_drew)); exact Kd.R_mono (Kd.R_far (p := ⟨gb746, 4, none⟩) (Kd.R_far (p := ⟨gb746, 3, none⟩) (Kd.R_far (p := ⟨gb746, 2, none⟩) (Kd.R_far (p := ⟨gb746, 1, none⟩) (Kd.R_far (p := ⟨gb746, 0, none⟩) (Kd.R_mono HO_3.out (fun k_ hk => (⟨hk, hk.2⟩ : _ ∧ k_ ≠ gb746))) (fun _ hk => hk.2) (.int .i64 t740)) (fun _ hk => hk.2) (.string t741)) (fun _ hk => hk.2) (.int .i32 t742)) (fun _ hk => hk.2) (.bool t743)) (fun _ hk => hk.2) (.int .u32 t744)) (fun _ hk => hk.1.2))); (case aS => exact (below_size Z75)); (case aL => have := LMc9.out; omega); intro v748 w13 ho hb hg hat; rw [← Ny747.out] at ho; replace BK746 := Z (blk_grown (g := gb746) (o := .cells #[.int .i64 t740, .string t741, .int .i32 t742, .bool t743, .int .u32 t744] 46 (0, 0)) (Z71 BK746) hg (Kd.R_away HO_3.out (fun _ hk => hk.2))); replace HB := Z (hb); have HO749 := Z (ho); clear HO_3; clear ho hb hg hat))
    go_roundg k1
    case measure => have := HK1.out; omega
    case rel => exact ⟨(y747), (wrap64 (x4_1 + t745)), Z2, H', ⟨Z6⟩, ⟨(Z15 HO749)⟩, ⟨Z75⟩⟩
   have c7b0 := decide_eq_false c7; clear c7; have H' := Aside0.mk H; clear H
   go_wp2
   go_loopg [3] k1 (fun kq v3 w' => ∃ (x3_2 : List (S46)), Aside0 (spec_ParseCells.l1 kq x3_2 = some r) ∧ Aside0 (kq ≤ k1) ∧ Aside0 (Kd.R k46 46 w' w.heap.size (fun _ => True) v3 x3_2) ∧ Aside0 (Below w.heap.size w w'))
   case atStart => exact ⟨(x3_1), H', ⟨Nat.le_refl _⟩, ⟨(Z11 HO_3)⟩, ⟨Z75⟩⟩
   case round =>
    clear H'; (try clear c2); (try clear c2b0); (try clear c2b1); (try clear p2); (try clear c3); (try clear c5); (try clear p6); (try clear c7); (try clear c7b0); (try clear c9); (try clear hcz12); (try clear p2); obtain ⟨x3_2, HA, HK2, HO_3, HB⟩ := hrel
    cases gk with
    | zero => exact absurd HA.out (by simp [spec_ParseCells.l1])
    | succ k2 =>
     have H := HA.out; clear HA; simp only [spec_ParseCells.l1] at H; replace H := Yi H; rcases H with ⟨c14, H⟩ | ⟨c14, H⟩
     ·have c14b0 : decide (0 < (x3_2.length : Int)) = true := decide_eq_true c14; have c14b1 : decide (0 < x3_2.length) = true := decide_eq_true (by omega); clear c14; obtain ⟨ji15, hji15⟩ : ∃ j_ : Int, (wrap64 ((x3_2.length : Int) - 1)) = j_ := ⟨_, rfl⟩; replace H : (if 0 ≤ (ji15) then (if (ji15) < (x3_2.length : Int) then (if (((rd_T46 x3_2 (ji15)).f0) == 0 && ((((rd_T46 x3_2 (ji15)).f1).toList) == ([] : List UInt8) && (((rd_T46 x3_2 (ji15)).f2) == 0 && (!((rd_T46 x3_2 (ji15)).f3) && (((rd_T46 x3_2 (ji15)).f4) == 0))))) = true then (if (ji15) ≤ (x3_2.length : Int) then (spec_ParseCells.l1 k2 (x3_2.take ((ji15) : Int).toNat)) else (none)) else (some x3_2)) else (none)) else (none)) = some r := Z20; have hji15w : (IntKind.i64.wrap ((x3_2.length : Int) - 1)) = ji15 := (i64_w _).trans hji15; replace H := Yg H; obtain ⟨c16, H⟩ := H; have c16b0 := decide_eq_true c16; clear c16; replace H := Yg H; obtain ⟨c17, H⟩ := H; have c17b0 := decide_eq_true c17; clear c17; replace H := Yi H; rcases H with ⟨c18, H⟩ | ⟨c18, H⟩
      ·have c18b0 : (((rd_T46 x3_2 (ji15)).f0) == 0 && ((((rd_T46 x3_2 (ji15)).f1).toList) == ([] : List UInt8) && (((rd_T46 x3_2 (ji15)).f2) == 0 && (!((rd_T46 x3_2 (ji15)).f3) && (((rd_T46 x3_2 (ji15)).f4) == 0))))) = true := c18
       (try (have c18b1 : (((rd_T46 x3_2 (ji15)).f0) == 0 && ((((rd_T46 x3_2 (ji15)).f1).toList).isEmpty && (((rd_T46 x3_2 (ji15)).f2) == 0 && (!((rd_T46 x3_2 (ji15)).f3) && (((rd_T46 x3_2 (ji15)).f4) == 0))))) = true := by have h_ : (((rd_T46 x3_2 (ji15)).f0) == 0 && ((((rd_T46 x3_2 (ji15)).f1).toList) == ([] : List UInt8) && (((rd_T46 x3_2 (ji15)).f2) == 0 && (!((rd_T46 x3_2 (ji15)).f3) && (((rd_T46 x3_2 (ji15)).f4) == 0))))) = true := c18; simpa only [List.beq_nil_eq] using h_))
       (try (have c18b2 : decide (((rd_T46 x3_2 (ji15)).f0) = 0 && ((((rd_T46 x3_2 (ji15)).f1).toList) == ([] : List UInt8) && (((rd_T46 x3_2 (ji15)).f2) == 0 && (!((rd_T46 x3_2 (ji15)).f3) && (((rd_T46 x3_2 (ji15)).f4) == 0))))) = true := Z72))
       (try (have c18b3 : (((rd_T46 x3_2 (ji15)).f0) == 0 && ((((rd_T46 x3_2 (ji15)).f1).toList) == ([] : List UInt8) && (((rd_T46 x3_2 (ji15)).f2) == 0 && (!((rd_T46 x3_2 (ji15)).f3) && (((rd_T46 x3_2 (ji15)).f4) == 0))))) = true := Z72))
       clear c18; replace H := Yg H; obtain ⟨c19, H⟩ := H; have c19b0 := eq_true c19; have c19b1 := decide_eq_true c19; clear c19; obtain ⟨y751, hy751⟩ : ∃ y_ : List (S46), y_ = (x3_2.take ((ji15) : Int).toNat) := ⟨_, rfl⟩; replace H : (spec_ParseCells.l1 k2 y751) = some r := Yy hy751 H; have Ny751 := Aside0.mk hy751; clear hy751; have H' := Aside0.mk H; clear H; obtain ⟨Ao20, co20, eo20⟩ := Kd.R_slice HO_3.out; subst eo20; have p750 : 0 ≤ ((ji15) : Int) := of_decide_eq_true Z5; have q750 : (ji15) < (x3_2.length : Int) := of_decide_eq_true Z5; obtain ⟨ad750, e750, hx750_0, hx750_1, hx750_2, hx750_3, hx750_4⟩ := at_T46 (Kd.R_reads' HO_3.out).2.2 (ji15) p750 q750
       cases e750
       replace p750 := eq_true p750; replace q750 := eq_true q750
       (try clear hcut20)
       have q21 : ((ji15) : Int) ≤ ((x3_2.length : Int) : Int) := of_decide_eq_true Z5; obtain ⟨i021, hi021, _, hsz21, _⟩ := info_parts info46; have hcut21 := cut_to (P := Tryz.prog) 42 46 .i64 Tryz.underlying42 hi021 (some ad750) x3_2.length co20 (ji15) (of_decide_eq_true Z5) q21 (Kd.R_reads' HO_3.out).2.1; have hl21 := (Kd.R_reads' HO_3.out).1; have hr21 := Kd.R_take (m := ((ji15) : Int).toNat) HO_3.out (by omega); have hy21 : y751.length = ((ji15) : Int).toNat := (by rw [Ny751.out, List.length_take]; omega); rw [← Ny751.out] at hr21; rw [← hy21] at hr21 hcut21; clear hl21 hy21 hi021 hsz21 HO_3; have HO753 := Aside0.mk hr21; clear hr21; replace q21 := eq_true q21
       go_wp2
       go_roundg k2
       case measure => have := HK1.out; have := HK2.out; omega
       case rel => exact ⟨(y751), H', ⟨Z40⟩, ⟨(Z11 HO753)⟩, ⟨Z75⟩⟩
      have c18b0 : (((rd_T46 x3_2 (ji15)).f0) == 0 && ((((rd_T46 x3_2 (ji15)).f1).toList) == ([] : List UInt8) && (((rd_T46 x3_2 (ji15)).f2) == 0 && (!((rd_T46 x3_2 (ji15)).f3) && (((rd_T46 x3_2 (ji15)).f4) == 0))))) = false := Z72
      (try (have c18b1 : (((rd_T46 x3_2 (ji15)).f0) == 0 && ((((rd_T46 x3_2 (ji15)).f1).toList).isEmpty && (((rd_T46 x3_2 (ji15)).f2) == 0 && (!((rd_T46 x3_2 (ji15)).f3) && (((rd_T46 x3_2 (ji15)).f4) == 0))))) = false := by have h_ : (((rd_T46 x3_2 (ji15)).f0) == 0 && ((((rd_T46 x3_2 (ji15)).f1).toList) == ([] : List UInt8) && (((rd_T46 x3_2 (ji15)).f2) == 0 && (!((rd_T46 x3_2 (ji15)).f3) && (((rd_T46 x3_2 (ji15)).f4) == 0))))) = false := Z72; simpa only [List.beq_nil_eq] using h_))
      (try (have c18b2 : decide (((rd_T46 x3_2 (ji15)).f0) = 0 && ((((rd_T46 x3_2 (ji15)).f1).toList) == ([] : List UInt8) && (((rd_T46 x3_2 (ji15)).f2) == 0 && (!((rd_T46 x3_2 (ji15)).f3) && (((rd_T46 x3_2 (ji15)).f4) == 0))))) = false := Z72))
      (try (have c18b3 : (((rd_T46 x3_2 (ji15)).f0) == 0 && ((((rd_T46 x3_2 (ji15)).f1).toList) == ([] : List UInt8) && (((rd_T46 x3_2 (ji15)).f2) == 0 && (!((rd_T46 x3_2 (ji15)).f3) && (((rd_T46 x3_2 (ji15)).f4) == 0))))) = false := Z72))
      (try (have c18b4 : ¬ (((rd_T46 x3_2 (ji15)).f0) = 0 && ((((rd_T46 x3_2 (ji15)).f1).toList) == ([] : List UInt8) && (((rd_T46 x3_2 (ji15)).f2) == 0 && (!((rd_T46 x3_2 (ji15)).f3) && (((rd_T46 x3_2 (ji15)).f4) == 0))))) := Z72))
      clear c18; obtain rfl := Option.some.inj H; obtain ⟨Ao22, co22, eo22⟩ := Kd.R_slice HO_3.out; subst eo22; have p750 : 0 ≤ ((ji15) : Int) := of_decide_eq_true Z5; have q750 : (ji15) < (x3_2.length : Int) := of_decide_eq_true Z5; obtain ⟨ad750, e750, hx750_0, hx750_1, hx750_2, hx750_3, hx750_4⟩ := at_T46 (Kd.R_reads' HO_3.out).2.2 (ji15) p750 q750
      cases e750
      replace p750 := eq_true p750; replace q750 := eq_true q750
      go_wp2
      go_ret
      exact ⟨_, by first | rfl | (rw [← show ∀ l_ : List UInt8, (!l_.isEmpty) = (l_ != []) from fun l_ => Z9]; rfl) | (simp [errW_none, errW_some] <;> rfl) | (simp only [← hji15]; first | rfl | (simp [errW_none, errW_some] <;> rfl)) | (simp [*, errW_none, errW_some] <;> rfl), (Z11 HO_3), Z75⟩
     have c14b0 : decide (0 < (x3_2.length : Int)) = false := decide_eq_false c14; have c14b1 : decide (0 < x3_2.length) = false := decide_eq_false (by omega); clear c14; obtain rfl := Option.some.inj H; obtain ⟨Ao23, co23, eo23⟩ := Kd.R_slice HO_3.out; subst eo23
     go_wp2
     go_ret
     exact ⟨_, Z76, (Z11 HO_3), Z75⟩

def spec_ItemOk.f (k : Nat) (a0_0 : Int) (a0_1 : ByteArray) (a0_2 : Int) (a0_3 : Bool) (a0_4 : Int) : Option (Bool) := (spec_CellsOf.f k a0_0 a0_1 a0_2 a0_3 a0_4).bind fun t755 => (some (decide ((t755.length : Int) > 0)))
theorem spec_ItemOk.calls (k : Nat) (a0_0 : Int) (a0_1 : ByteArray) (a0_2 : Int) (a0_3 : Bool) (a0_4 : Int) (r : Bool) (w : World) (h : spec_ItemOk.f k a0_0 a0_1 a0_2 a0_3 a0_4 = some r) :
  Calls Tryz.prog 57 #[.agg #[.int .i64 a0_0, .string a0_1, .int .i32 a0_2, .bool a0_3, .int .u32 a0_4]] w fun e w' => e = .returned (.bool r) ∧ Below w.heap.size w w' := by
 have hu46 := Tryz.underlying46; have HB := Z (Below.refl w.heap.size w); unfold spec_ItemOk.f at h; have H := h; clear h; replace H := Yd H; obtain ⟨t755, A2, H⟩ := H; (try dsimp only at H); obtain rfl := Option.some.inj H; go_enter Tryz.func57, Tryz.ntmps57
 go_wp2_with (first | ((with_reducible refine gate_dst (N := 1) rfl ?_); refine box_event (by rfl) (N := 1) (by rfl) (cs := #[.int .i64 a0_0, .string a0_1, .int .i32 a0_2, .bool a0_3, .int .u32 a0_4]) (t := 46) Z7 ?_; intro gb754 hg w3 hbox hb; have BK754 := Z (hbox); have GW754 := Z ((Z99 : w.heap.size ≤ gb754)); have GE754 := Z ((Z99 : w.heap.size ≤ gb754)); replace HB := Z (below_step Z75 hb); clear hb hbox hg; have hcz4 := Yb5 BK754.out) | ((with_reducible refine gate_callee (f := 37) rfl ?_); refine goesL_ (some 4) rfl rfl Tryz.func37 Z0 rfl #[.agg #[.int .i64 a0_0, .string a0_1, .int .i32 a0_2, .bool a0_3, .int .u32 a0_4]] rfl Z10 ?_; (with_reducible refine (spec_CellsOf.calls k a0_0 a0_1 a0_2 a0_3 a0_4 t755 _ A2.out).mono ?_); rintro e w5 ⟨v756, rfl, ho0, hb⟩; refine ⟨_, rfl, ?_⟩; have HO757 := Z (Kd.R_lower ho0 (below_size Z75)); replace BK754 := Z (Yk10 BK754 hb); replace HB := Z (below_step Z75 hb); (try clear hb); (try clear hb2); (try clear hk); (try clear hi); (try clear ho0); obtain ⟨Ao6, co6, eo6⟩ := Kd.R_slice HO757.out; subst eo6))
 go_ret
 exact ⟨Z76, Z75⟩

mutual
def spec_l06Mark.j0 : Nat → Int → Bool → Option (ByteArray)
 | 0, _, _ => none
 | k + 1, x3, x4 => if x4 = true then (some (⟨#[126]⟩ : ByteArray)) else (if x3 = 2 then (some (⟨#[58]⟩ : ByteArray)) else (if x3 = 3 then (spec_l06Mark.j1 k x3 (x3 == 3)) else (spec_l06Mark.j1 k x3 (x3 == 8))))
def spec_l06Mark.j1 : Nat → Int → Bool → Option (ByteArray)
 | 0, _, _ => none
 | k + 1, x3, x9 => if x9 = true then (some (⟨#[61]⟩ : ByteArray)) else (if x3 = 4 then (some (⟨#[34]⟩ : ByteArray)) else (if x3 = 5 then (some (⟨#[94]⟩ : ByteArray)) else (if x3 = 6 then (some (⟨#[95]⟩ : ByteArray)) else (if x3 = 9 then (some (⟨#[38]⟩ : ByteArray)) else (some (⟨#[37]⟩ : ByteArray))))))
end
def spec_l06Mark.f (k : Nat) (a0 : Int) : Option (ByteArray) := if a0 = 1 then (spec_l06Mark.j0 k a0 (a0 == 1)) else (spec_l06Mark.j0 k a0 (a0 == 7))
theorem spec_l06Mark.calls (k : Nat) (a0 : Int) (r : ByteArray) (w : World) (h : spec_l06Mark.f k a0 = some r) :
  Calls Tryz.prog 58 #[.int .i64 a0] w fun e w' => e = .returned (.string r) ∧ Drawn0 w w' := by
 unfold spec_l06Mark.f at h; have H := h; clear h; have HC2 := Aside0.mk H; clear H; go_enter Tryz.func58, Tryz.ntmps58
 go_upto_if 4 with (fail)
 go_cut [4] (fun v4 wc => ∃ (kq : Nat) (x4_1 : Bool), v4 = .bool x4_1 ∧ Aside0 (spec_l06Mark.j0 kq a0 x4_1 = some r) ∧ Aside0 (kq ≤ k) ∧ Drawn0 w wc)
 case first =>
  have H := HC2.out; clear HC2; replace H := Yi H; rcases H with ⟨c3, H⟩ | ⟨c3, H⟩
  ·obtain ⟨c3b0, c3b1⟩ := Ye c3; clear c3
   (first | rw [c3b0] | (simp only [i64_w, i32_w]; rw [c3b0]) | skip)
   have H' := Aside0.mk H; clear H
   go_wp2
   go_meet
   case rel => exact ⟨_, ((a0 == 1)), Z2, H', ⟨Z14⟩, Z3⟩
  obtain ⟨c3b0, c3b1⟩ := Yn c3
  (first | rw [c3b0] | (simp only [i64_w, i32_w]; rw [c3b0]) | skip)
  have H' := Aside0.mk H; clear H
  go_wp2
  go_meet
  case rel => exact ⟨_, ((a0 == 7)), Z2, H', ⟨Z14⟩, Z3⟩
 case rest =>
  clear HC2; (try clear p2); (try clear c3); (try clear c3b0); (try clear c3b1); obtain ⟨kq, x4_1, rfl, HA, HJ1, ⟨mc1, rfl⟩⟩ := hcut
  cases kq with
  | zero => exact absurd HA.out (by simp [spec_l06Mark.j0])
  | succ kj1 =>
   have H := HA.out; clear HA; simp only [spec_l06Mark.j0] at H; by_cases c4 : x4_1 = true
   ·subst c4; replace H := Yt H; obtain rfl := Option.some.inj H
    go_wp2
    go_ret
    exact ⟨Z2, Z3⟩
   replace c4 := Bool.eq_false_iff.mpr c4; subst c4; replace H := Yf H; replace H := Yi H; rcases H with ⟨c5, H⟩ | ⟨c5, H⟩
   ·obtain ⟨c5b0, c5b1⟩ := Ye c5; clear c5; obtain rfl := Option.some.inj H
    go_wp2
    go_ret
    exact ⟨Z2, Z3⟩
   obtain ⟨c5b0, c5b1⟩ := Yn c5; have HC6 := Aside0.mk H; clear H
   go_upto_if 9 with (fail)
   go_cut [9] (fun v9 wc => ∃ (kq : Nat) (x9_5 : Bool), v9 = .bool x9_5 ∧ Aside0 (spec_l06Mark.j1 kq a0 x9_5 = some r) ∧ Aside0 (kq ≤ kj1) ∧ Drawn0 w wc)
   case first =>
    have H := HC6.out; clear HC6; replace H := Yi H; rcases H with ⟨c7, H⟩ | ⟨c7, H⟩
    ·obtain ⟨c7b0, c7b1⟩ := Ye c7; clear c7
     (first | rw [c7b0] | (simp only [i64_w, i32_w]; rw [c7b0]) | skip)
     have H' := Aside0.mk H; clear H
     go_wp2
     go_meet
     case rel => exact ⟨_, ((a0 == 3)), Z2, H', ⟨by have := HJ1.out; first | omega | exact Nat.le_refl _⟩, Z3⟩
    obtain ⟨c7b0, c7b1⟩ := Yn c7
    (first | rw [c7b0] | (simp only [i64_w, i32_w]; rw [c7b0]) | skip)
    have H' := Aside0.mk H; clear H
    go_wp2
    go_meet
    case rel => exact ⟨_, ((a0 == 8)), Z2, H', ⟨by have := HJ1.out; first | omega | exact Nat.le_refl _⟩, Z3⟩
   case rest =>
    clear HC6; (try clear c1); (try clear p2); (try clear c3); (try clear c3b0); (try clear c3b1); (try clear c4); (try clear c5); (try clear c5b0); (try clear c5b1); (try clear c7); (try clear c7b0); (try clear c7b1); (try clear p2); obtain ⟨kq, x9_5, rfl, HA, HJ5, ⟨mc5, rfl⟩⟩ := hcut
    cases kq with
    | zero => exact absurd HA.out (by simp [spec_l06Mark.j1])
    | succ kj5 =>
     have H := HA.out; clear HA; simp only [spec_l06Mark.j1] at H; by_cases c8 : x9_5 = true
     ·subst c8; replace H := Yt H; obtain rfl := Option.some.inj H
      go_wp2
      go_ret
      exact ⟨Z2, Z3⟩
     replace c8 := Bool.eq_false_iff.mpr c8; subst c8; replace H := Yf H; replace H := Yi H; rcases H with ⟨c9, H⟩ | ⟨c9, H⟩
     ·obtain ⟨c9b0, c9b1⟩ := Ye c9; clear c9; obtain rfl := Option.some.inj H
      go_wp2
      go_ret
      exact ⟨Z2, Z3⟩
     obtain ⟨c9b0, c9b1⟩ := Yn c9; replace H := Yi H; rcases H with ⟨c10, H⟩ | ⟨c10, H⟩
     ·obtain ⟨c10b0, c10b1⟩ := Ye c10; clear c10; obtain rfl := Option.some.inj H
      go_wp2
      go_ret
      exact ⟨Z2, Z3⟩
     obtain ⟨c10b0, c10b1⟩ := Yn c10; replace H := Yi H; rcases H with ⟨c11, H⟩ | ⟨c11, H⟩
     ·obtain ⟨c11b0, c11b1⟩ := Ye c11; clear c11; obtain rfl := Option.some.inj H
      go_wp2
      go_ret
      exact ⟨Z2, Z3⟩
     obtain ⟨c11b0, c11b1⟩ := Yn c11; replace H := Yi H; rcases H with ⟨c12, H⟩ | ⟨c12, H⟩
     ·obtain ⟨c12b0, c12b1⟩ := Ye c12; clear c12; obtain rfl := Option.some.inj H
      go_wp2
      go_ret
      exact ⟨Z2, Z3⟩
     obtain ⟨c12b0, c12b1⟩ := Yn c12; obtain rfl := Option.some.inj H
     go_wp2
     go_ret
     exact ⟨Z2, Z3⟩

def spec_HexText.l0 : Nat → ByteArray → Int → Option (ByteArray)
 | 0, _, _ => none
 | k + 1, x3, x4 => if x4 > 0 then (if 0 ≤ (Int.tmod x4 16) then (if (Int.tmod x4 16) ≤ (wrap64 ((Int.tmod x4 16) + 1)) then (if (wrap64 ((Int.tmod x4 16) + 1)) ≤ 16 then (if ((⟨#[48, 49, 50, 51, 52, 53, 54, 55, 56, 57, 97, 98, 99, 100, 101, 102]⟩ : ByteArray).extract ((Int.tmod x4 16) : Int).toNat ((wrap64 ((Int.tmod x4 16) + 1)) : Int).toNat).size + x3.size ≤ 9223372036854775807 then (spec_HexText.l0 k (((⟨#[48, 49, 50, 51, 52, 53, 54, 55, 56, 57, 97, 98, 99, 100, 101, 102]⟩ : ByteArray).extract ((Int.tmod x4 16) : Int).toNat ((wrap64 ((Int.tmod x4 16) + 1)) : Int).toNat) ++ x3) (wrap64 (Int.tdiv x4 16))) else (none)) else (none)) else (none)) else (none)) else (some x3)
def spec_HexText.f (k : Nat) (a0 : Int) : Option (ByteArray) := if a0 = 0 then (some (⟨#[48]⟩ : ByteArray)) else (spec_HexText.l0 k (⟨#[]⟩ : ByteArray) (wrap64 (a0)))
theorem spec_HexText.calls (k : Nat) (a0 : Int) (r : ByteArray) (w : World) (h : spec_HexText.f k a0 = some r) :
  Calls Tryz.prog 59 #[.int .u32 a0] w fun e w' => e = .returned (.string r) ∧ Drawn0 w w' := by
 unfold spec_HexText.f at h; have H := h; clear h; replace H := Yi H; rcases H with ⟨c2, H⟩ | ⟨c2, H⟩
 ·obtain ⟨c2b0, c2b1⟩ := Ye c2; clear c2; obtain rfl := Option.some.inj H; go_enter Tryz.func59, Tryz.ntmps59
  go_wp2
  go_ret
  exact ⟨Z2, Z3⟩
 obtain ⟨c2b0, c2b1⟩ := Yn c2; have H' := Aside0.mk H; clear H; go_enter Tryz.func59, Tryz.ntmps59
 go_wp2
 go_loopg [3, 4] k (fun kq v3 v4 w' => ∃ (x3_1 : ByteArray) (x4_1 : Int), v3 = .string x3_1 ∧ v4 = .int .i64 x4_1 ∧ Aside0 (spec_HexText.l0 kq x3_1 x4_1 = some r) ∧ Aside0 (kq ≤ k) ∧ Drawn0 w w')
 case atStart => exact ⟨((⟨#[]⟩ : ByteArray)), (wrap64 (a0)), Z2, Z2, H', ⟨Nat.le_refl _⟩, Z3⟩
 case round =>
  clear H'; (try clear c2); (try clear c2b0); (try clear c2b1); (try clear p2); obtain ⟨x3_1, x4_1, rfl, rfl, HA, HK1, ⟨m1, rfl⟩⟩ := hrel
  cases gk with
  | zero => exact absurd HA.out (by simp [spec_HexText.l0])
  | succ k1 =>
   have H := HA.out; clear HA; simp only [spec_HexText.l0] at H; replace H := Yi H; rcases H with ⟨c3, H⟩ | ⟨c3, H⟩
   ·have c3b0 : decide (0 < x4_1) = true := decide_eq_true c3; clear c3; obtain ⟨ji4, hji4⟩ : ∃ j_ : Int, (Int.tmod x4_1 16) = j_ := ⟨_, rfl⟩; replace H : (if 0 ≤ (ji4) then (if (ji4) ≤ (wrap64 ((ji4) + 1)) then (if (wrap64 ((ji4) + 1)) ≤ 16 then (if ((⟨#[48, 49, 50, 51, 52, 53, 54, 55, 56, 57, 97, 98, 99, 100, 101, 102]⟩ : ByteArray).extract ((ji4) : Int).toNat ((wrap64 ((ji4) + 1)) : Int).toNat).size + x3_1.size ≤ 9223372036854775807 then (spec_HexText.l0 k1 (((⟨#[48, 49, 50, 51, 52, 53, 54, 55, 56, 57, 97, 98, 99, 100, 101, 102]⟩ : ByteArray).extract ((ji4) : Int).toNat ((wrap64 ((ji4) + 1)) : Int).toNat) ++ x3_1) (wrap64 (Int.tdiv x4_1 16))) else (none)) else (none)) else (none)) else (none)) = some r := by first | (rw [hji4] at H; exact H) | (simp only [hji4] at H ⊢; exact H)
    replace H := Yg H; obtain ⟨c5, H⟩ := H; have c5b0 := eq_true c5; have c5b1 := decide_eq_true c5; clear c5; replace H := Yg H; obtain ⟨c6, H⟩ := H; have c6b0 := eq_true c6; have c6b1 := decide_eq_true c6; replace H := Yg H; obtain ⟨c7, H⟩ := H; have c7b0 := eq_true c7; have c7b1 := decide_eq_true c7; replace H := Yg H; obtain ⟨c8, H⟩ := H; have c8b0 := eq_true c8; have c8b1 := decide_eq_true c8
    try have c8b2 : (9223372036854775807 < ((⟨#[48, 49, 50, 51, 52, 53, 54, 55, 56, 57, 97, 98, 99, 100, 101, 102]⟩ : ByteArray).extract ((ji4) : Int).toNat ((wrap64 ((ji4) + 1)) : Int).toNat).size + x3_1.size) = False := eq_false (Nat.not_lt.2 c8)
    have H' := Aside0.mk H; clear H
    go_wp2
    go_roundg k1
    case measure => have := HK1.out; omega
    case rel => exact ⟨(((⟨#[48, 49, 50, 51, 52, 53, 54, 55, 56, 57, 97, 98, 99, 100, 101, 102]⟩ : ByteArray).extract ((ji4) : Int).toNat ((wrap64 ((ji4) + 1)) : Int).toNat) ++ x3_1), (wrap64 (Int.tdiv x4_1 16)), (by first | rfl | (simp; done) | (simp only [← hji4] <;> (first | rfl | simp)) | (simp [*]; done)), Z2, H', ⟨Z6⟩, Z3⟩
   have c3b0 : decide (0 < x4_1) = false := decide_eq_false c3; clear c3; obtain rfl := Option.some.inj H
   go_wp2
   go_ret
   exact ⟨Z2, Z3⟩

def spec_DecText.l0 : Nat → Int → ByteArray → Int → Option (ByteArray)
 | 0, _, _, _ => none
 | k + 1, x0, x3, x4 => if x4 = 0 then (if x0 < 0 then (if 1 + x3.size ≤ 9223372036854775807 then (some ((⟨#[45]⟩ : ByteArray) ++ x3)) else (none)) else (some x3)) else (if (Int.tmod x4 10) < 0 then (if 0 ≤ (wrap64 (-(Int.tmod x4 10))) then (if (wrap64 (-(Int.tmod x4 10))) ≤ (wrap64 ((wrap64 (-(Int.tmod x4 10))) + 1)) then (if (wrap64 ((wrap64 (-(Int.tmod x4 10))) + 1)) ≤ 10 then (if ((⟨#[48, 49, 50, 51, 52, 53, 54, 55, 56, 57]⟩ : ByteArray).extract ((wrap64 (-(Int.tmod x4 10))) : Int).toNat ((wrap64 ((wrap64 (-(Int.tmod x4 10))) + 1)) : Int).toNat).size + x3.size ≤ 9223372036854775807 then (spec_DecText.l0 k x0 (((⟨#[48, 49, 50, 51, 52, 53, 54, 55, 56, 57]⟩ : ByteArray).extract ((wrap64 (-(Int.tmod x4 10))) : Int).toNat ((wrap64 ((wrap64 (-(Int.tmod x4 10))) + 1)) : Int).toNat) ++ x3) (wrap64 (Int.tdiv x4 10))) else (none)) else (none)) else (none)) else (none)) else (if 0 ≤ (Int.tmod x4 10) then (if (Int.tmod x4 10) ≤ (wrap64 ((Int.tmod x4 10) + 1)) then (if (wrap64 ((Int.tmod x4 10) + 1)) ≤ 10 then (if ((⟨#[48, 49, 50, 51, 52, 53, 54, 55, 56, 57]⟩ : ByteArray).extract ((Int.tmod x4 10) : Int).toNat ((wrap64 ((Int.tmod x4 10) + 1)) : Int).toNat).size + x3.size ≤ 9223372036854775807 then (spec_DecText.l0 k x0 (((⟨#[48, 49, 50, 51, 52, 53, 54, 55, 56, 57]⟩ : ByteArray).extract ((Int.tmod x4 10) : Int).toNat ((wrap64 ((Int.tmod x4 10) + 1)) : Int).toNat) ++ x3) (wrap64 (Int.tdiv x4 10))) else (none)) else (none)) else (none)) else (none)))
def spec_DecText.f (k : Nat) (a0 : Int) : Option (ByteArray) := if a0 = 0 then (some (⟨#[48]⟩ : ByteArray)) else (spec_DecText.l0 k a0 (⟨#[]⟩ : ByteArray) a0)
theorem spec_DecText.calls (k : Nat) (a0 : Int) (r : ByteArray) (w : World) (h : spec_DecText.f k a0 = some r) :
  Calls Tryz.prog 60 #[.int .i64 a0] w fun e w' => e = .returned (.string r) ∧ Drawn0 w w' := by
 unfold spec_DecText.f at h; have H := h; clear h; replace H := Yi H; rcases H with ⟨c2, H⟩ | ⟨c2, H⟩
 ·obtain ⟨c2b0, c2b1⟩ := Ye c2; clear c2; obtain rfl := Option.some.inj H; go_enter Tryz.func60, Tryz.ntmps60
  go_wp2
  go_ret
  exact ⟨Z2, Z3⟩
 obtain ⟨c2b0, c2b1⟩ := Yn c2; have H' := Aside0.mk H; clear H; go_enter Tryz.func60, Tryz.ntmps60
 go_wp2
 go_loopg [3, 4] k (fun kq v3 v4 w' => ∃ (x3_1 : ByteArray) (x4_1 : Int), v3 = .string x3_1 ∧ v4 = .int .i64 x4_1 ∧ Aside0 (spec_DecText.l0 kq a0 x3_1 x4_1 = some r) ∧ Aside0 (kq ≤ k) ∧ Drawn0 w w')
 case atStart => exact ⟨((⟨#[]⟩ : ByteArray)), (a0), Z2, Z2, H', ⟨Nat.le_refl _⟩, Z3⟩
 case round =>
  clear H'; (try clear c2); (try clear c2b0); (try clear c2b1); (try clear p2); obtain ⟨x3_1, x4_1, rfl, rfl, HA, HK1, ⟨m1, rfl⟩⟩ := hrel
  cases gk with
  | zero => exact absurd HA.out (by simp [spec_DecText.l0])
  | succ k1 =>
   have H := HA.out; clear HA; simp only [spec_DecText.l0] at H; replace H := Yi H; rcases H with ⟨c3, H⟩ | ⟨c3, H⟩
   ·obtain ⟨c3b0, c3b1⟩ := Ye c3; clear c3; replace H := Yi H; rcases H with ⟨c4, H⟩ | ⟨c4, H⟩
    ·have c4b0 := decide_eq_true c4; clear c4; replace H := Yg H; obtain ⟨c5, H⟩ := H; have c5b0 := eq_true c5; have c5b1 := decide_eq_true c5
     try have c5b2 : (9223372036854775807 < 1 + x3_1.size) = False := eq_false (Nat.not_lt.2 c5)
     obtain rfl := Option.some.inj H
     go_wp2
     go_ret
     exact ⟨Z2, Z3⟩
    have c4b0 := decide_eq_false c4; clear c4; obtain rfl := Option.some.inj H
    go_wp2
    go_ret
    exact ⟨Z2, Z3⟩
   obtain ⟨c3b0, c3b1⟩ := Yn c3; replace H := Yi H; rcases H with ⟨c6, H⟩ | ⟨c6, H⟩
   ·have c6b0 := decide_eq_true c6; clear c6; obtain ⟨ji7, hji7⟩ : ∃ j_ : Int, (wrap64 (-(Int.tmod x4_1 10))) = j_ := ⟨_, rfl⟩; replace H : (if 0 ≤ (ji7) then (if (ji7) ≤ (wrap64 ((ji7) + 1)) then (if (wrap64 ((ji7) + 1)) ≤ 10 then (if ((⟨#[48, 49, 50, 51, 52, 53, 54, 55, 56, 57]⟩ : ByteArray).extract ((ji7) : Int).toNat ((wrap64 ((ji7) + 1)) : Int).toNat).size + x3_1.size ≤ 9223372036854775807 then (spec_DecText.l0 k1 a0 (((⟨#[48, 49, 50, 51, 52, 53, 54, 55, 56, 57]⟩ : ByteArray).extract ((ji7) : Int).toNat ((wrap64 ((ji7) + 1)) : Int).toNat) ++ x3_1) (wrap64 (Int.tdiv x4_1 10))) else (none)) else (none)) else (none)) else (none)) = some r := Z45; have hji7w : (IntKind.i64.wrap (-(Int.tmod x4_1 10))) = ji7 := (i64_w _).trans hji7; replace H := Yg H; obtain ⟨c8, H⟩ := H; have c8b0 := eq_true c8; have c8b1 := decide_eq_true c8; clear c8; replace H := Yg H; obtain ⟨c9, H⟩ := H; have c9b0 := eq_true c9; have c9b1 := decide_eq_true c9; replace H := Yg H; obtain ⟨c10, H⟩ := H; have c10b0 := eq_true c10; have c10b1 := decide_eq_true c10; replace H := Yg H; obtain ⟨c11, H⟩ := H; have c11b0 := eq_true c11; have c11b1 := decide_eq_true c11
    try have c11b2 : (9223372036854775807 < ((⟨#[48, 49, 50, 51, 52, 53, 54, 55, 56, 57]⟩ : ByteArray).extract ((ji7) : Int).toNat ((wrap64 ((ji7) + 1)) : Int).toNat).size + x3_1.size) = False := eq_false (Nat.not_lt.2 c11)
    have H' := Aside0.mk H; clear H
    go_wp2
    go_roundg k1
    case measure => have := HK1.out; omega
    case rel => exact ⟨(((⟨#[48, 49, 50, 51, 52, 53, 54, 55, 56, 57]⟩ : ByteArray).extract ((ji7) : Int).toNat ((wrap64 ((ji7) + 1)) : Int).toNat) ++ x3_1), (wrap64 (Int.tdiv x4_1 10)), Z46, Z2, H', ⟨Z6⟩, Z3⟩
   have c6b0 := decide_eq_false c6; clear c6; obtain ⟨ji12, hji12⟩ : ∃ j_ : Int, (Int.tmod x4_1 10) = j_ := ⟨_, rfl⟩; replace H : (if 0 ≤ (ji12) then (if (ji12) ≤ (wrap64 ((ji12) + 1)) then (if (wrap64 ((ji12) + 1)) ≤ 10 then (if ((⟨#[48, 49, 50, 51, 52, 53, 54, 55, 56, 57]⟩ : ByteArray).extract ((ji12) : Int).toNat ((wrap64 ((ji12) + 1)) : Int).toNat).size + x3_1.size ≤ 9223372036854775807 then (spec_DecText.l0 k1 a0 (((⟨#[48, 49, 50, 51, 52, 53, 54, 55, 56, 57]⟩ : ByteArray).extract ((ji12) : Int).toNat ((wrap64 ((ji12) + 1)) : Int).toNat) ++ x3_1) (wrap64 (Int.tdiv x4_1 10))) else (none)) else (none)) else (none)) else (none)) = some r := Z28
   (try rw [hji12] at c6b0)
   replace H := Yg H; obtain ⟨c13, H⟩ := H; have c13b0 := eq_true c13; have c13b1 := decide_eq_true c13; clear c13; replace H := Yg H; obtain ⟨c14, H⟩ := H; have c14b0 := eq_true c14; have c14b1 := decide_eq_true c14; replace H := Yg H; obtain ⟨c15, H⟩ := H; have c15b0 := eq_true c15; have c15b1 := decide_eq_true c15; replace H := Yg H; obtain ⟨c16, H⟩ := H; have c16b0 := eq_true c16; have c16b1 := decide_eq_true c16
   try have c16b2 : (9223372036854775807 < ((⟨#[48, 49, 50, 51, 52, 53, 54, 55, 56, 57]⟩ : ByteArray).extract ((ji12) : Int).toNat ((wrap64 ((ji12) + 1)) : Int).toNat).size + x3_1.size) = False := eq_false (Nat.not_lt.2 c16)
   have H' := Aside0.mk H; clear H
   go_wp2
   go_roundg k1
   case measure => have := HK1.out; omega
   case rel => exact ⟨(((⟨#[48, 49, 50, 51, 52, 53, 54, 55, 56, 57]⟩ : ByteArray).extract ((ji12) : Int).toNat ((wrap64 ((ji12) + 1)) : Int).toNat) ++ x3_1), (wrap64 (Int.tdiv x4_1 10)), (by first | rfl | (simp; done) | (simp only [← hji12] <;> (first | rfl | simp)) | (simp [*]; done)), Z2, H', ⟨Z6⟩, Z3⟩

def spec_ItemText.j0 : Nat → ByteArray → Int → Bool → Int → ByteArray → Int → Bool → Int → Option (ByteArray)
 | 0, _, _, _, _, _, _, _, _ => none
 | k + 1, x3, x11, x12, x759000, x759001, x759002, x759003, x759004 => if x12 = true then (if x759003 = true then (if x3.size + 1 ≤ 9223372036854775807 then ((spec_HexText.f k ((x759002) % 4294967296)).bind fun t761 => (if (x3 ++ (⟨#[36]⟩ : ByteArray)).size + t761.size ≤ 9223372036854775807 then (some ((x3 ++ (⟨#[36]⟩ : ByteArray)) ++ t761)) else (none))) else (none)) else (if x3.size + 1 ≤ 9223372036854775807 then ((spec_DecText.f k (wrap64 (x759002))).bind fun t762 => (if (x3 ++ (⟨#[35]⟩ : ByteArray)).size + t762.size ≤ 9223372036854775807 then (some ((x3 ++ (⟨#[35]⟩ : ByteArray)) ++ t762)) else (none))) else (none))) else (if x11 = 9 then (if x3.size + x759001.size ≤ 9223372036854775807 then (if (x3 ++ x759001).size + 1 ≤ 9223372036854775807 then ((spec_DecText.f k (wrap64 (x759002))).bind fun t763 => (if ((x3 ++ x759001) ++ (⟨#[35]⟩ : ByteArray)).size + t763.size ≤ 9223372036854775807 then (some (((x3 ++ x759001) ++ (⟨#[35]⟩ : ByteArray)) ++ t763)) else (none))) else (none)) else (none)) else (if x11 = 0 then ((spec_HexText.f k x759004).bind fun t764 => (if x3.size + t764.size ≤ 9223372036854775807 then (some (x3 ++ t764)) else (none))) else (if x3.size + x759001.size ≤ 9223372036854775807 then (some (x3 ++ x759001)) else (none))))
def spec_ItemText.f (k : Nat) (a0_0 : Int) (a0_1 : ByteArray) (a0_2 : Int) (a0_3 : Bool) (a0_4 : Int) : Option (ByteArray) := (spec_ItemOk.f k a0_0 a0_1 a0_2 a0_3 a0_4).bind fun t759 => (if t759 = true then ((spec_l06Mark.f k a0_0).bind fun t760 => (if a0_0 = 7 then (spec_ItemText.j0 k t760 a0_0 (a0_0 == 7) a0_0 a0_1 a0_2 a0_3 a0_4) else (spec_ItemText.j0 k t760 a0_0 (a0_0 == 8) a0_0 a0_1 a0_2 a0_3 a0_4))) else (some (⟨#[]⟩ : ByteArray)))
theorem spec_ItemText.calls (k : Nat) (a0_0 : Int) (a0_1 : ByteArray) (a0_2 : Int) (a0_3 : Bool) (a0_4 : Int) (r : ByteArray) (w : World) (h : spec_ItemText.f k a0_0 a0_1 a0_2 a0_3 a0_4 = some r) :
  Calls Tryz.prog 31 #[.agg #[.int .i64 a0_0, .string a0_1, .int .i32 a0_2, .bool a0_3, .int .u32 a0_4]] w fun e w' => e = .returned (.string r) ∧ Below w.heap.size w w' := by
 have hu46 := Tryz.underlying46; have HB := Z (Below.refl w.heap.size w); unfold spec_ItemText.f at h; have H := h; clear h; replace H := Yd H; obtain ⟨t759, A2, H⟩ := H; (try dsimp only at H); by_cases c3 : t759 = true
 ·subst c3; replace H := Yt H; replace H := Yd H; obtain ⟨t760, A4, H⟩ := H; (try dsimp only at H); have HC5 := Aside0.mk H; clear H; go_enter Tryz.func31, Tryz.ntmps31
  go_upto_if 12 with (first | ((with_reducible refine gate_dst (N := 1) rfl ?_); refine box_event (by rfl) (N := 1) (by rfl) (cs := #[.int .i64 a0_0, .string a0_1, .int .i32 a0_2, .bool a0_3, .int .u32 a0_4]) (t := 46) Z7 ?_; intro gb758 hg w6 hbox hb; have BK758 := Z (hbox); have GW758 := Z ((Z99 : w.heap.size ≤ gb758)); have GE758 := Z ((Z99 : w.heap.size ≤ gb758)); replace HB := Z (below_step Z75 hb); clear hb hbox hg; have hcz7 := Yb5 BK758.out) | (go_at_call 57; (with_reducible refine (spec_ItemOk.calls k a0_0 a0_1 a0_2 a0_3 a0_4 true _ A2.out).mono ?_); rintro e w8 ⟨rfl, hb⟩; replace BK758 := Z (Yk10 BK758 hb); replace HB := Z (below_step Z75 hb); (try clear hb); (try clear hb2); (try clear hk); (try clear hi); have hcz9 := Yb5 BK758.out) | (go_at_call 58; (with_reducible refine (spec_l06Mark.calls k a0_0 t760 _ A4.out).mono ?_); rintro e w' ⟨rfl, ⟨nd, rfl⟩⟩; (try first | exact ⟨rfl, _, World.drewN_drewN _ _ _⟩ | exact ⟨rfl, _, Eq.trans (World.drewN_drewN _ _ _) (congrArg (World.drewN _) (Nat.add_assoc _ _ _))⟩)))
  repeat (go_quiet (first | ((with_reducible refine gate_dst (N := 1) rfl ?_); refine box_event (by rfl) (N := 1) (by rfl) (cs := #[.int .i64 a0_0, .string a0_1, .int .i32 a0_2, .bool a0_3, .int .u32 a0_4]) (t := 46) Z7 ?_; intro gb758 hg w6 hbox hb; have BK758 := Z (hbox); have GW758 := Z ((Z99 : w.heap.size ≤ gb758)); have GE758 := Z ((Z99 : w.heap.size ≤ gb758)); replace HB := Z (below_step Z75 hb); clear hb hbox hg; have hcz7 := Yb5 BK758.out) | (go_at_call 57; (with_reducible refine (spec_ItemOk.calls k a0_0 a0_1 a0_2 a0_3 a0_4 true _ A2.out).mono ?_); rintro e w8 ⟨rfl, hb⟩; replace BK758 := Z (Yk10 BK758 hb); replace HB := Z (below_step Z75 hb); (try clear hb); (try clear hb2); (try clear hk); (try clear hi); have hcz9 := Yb5 BK758.out) | (go_at_call 58; (with_reducible refine (spec_l06Mark.calls k a0_0 t760 _ A4.out).mono ?_); rintro e w' ⟨rfl, ⟨nd, rfl⟩⟩; (try first | exact ⟨rfl, _, World.drewN_drewN _ _ _⟩ | exact ⟨rfl, _, Eq.trans (World.drewN_drewN _ _ _) (congrArg (World.drewN _) (Nat.add_assoc _ _ _))⟩))); go_upto_if 12 with (first | ((with_reducible refine gate_dst (N := 1) rfl ?_); refine box_event (by rfl) (N := 1) (by rfl) (cs := #[.int .i64 a0_0, .string a0_1, .int .i32 a0_2, .bool a0_3, .int .u32 a0_4]) (t := 46) Z7 ?_; intro gb758 hg w6 hbox hb; have BK758 := Z (hbox); have GW758 := Z ((Z99 : w.heap.size ≤ gb758)); have GE758 := Z ((Z99 : w.heap.size ≤ gb758)); replace HB := Z (below_step Z75 hb); clear hb hbox hg; have hcz7 := Yb5 BK758.out) | (go_at_call 57; (with_reducible refine (spec_ItemOk.calls k a0_0 a0_1 a0_2 a0_3 a0_4 true _ A2.out).mono ?_); rintro e w8 ⟨rfl, hb⟩; replace BK758 := Z (Yk10 BK758 hb); replace HB := Z (below_step Z75 hb); (try clear hb); (try clear hb2); (try clear hk); (try clear hi); have hcz9 := Yb5 BK758.out) | (go_at_call 58; (with_reducible refine (spec_l06Mark.calls k a0_0 t760 _ A4.out).mono ?_); rintro e w' ⟨rfl, ⟨nd, rfl⟩⟩; (try first | exact ⟨rfl, _, World.drewN_drewN _ _ _⟩ | exact ⟨rfl, _, Eq.trans (World.drewN_drewN _ _ _) (congrArg (World.drewN _) (Nat.add_assoc _ _ _))⟩))))
  (try simp only [Act.put, List.setIfInBounds_toArray, List.set_cons_zero, List.set_cons_succ])
  go_cut [12] (fun v12 wc => ∃ (kq : Nat) (x12_4 : Bool), v12 = .bool x12_4 ∧ Aside0 (spec_ItemText.j0 kq t760 a0_0 x12_4 a0_0 a0_1 a0_2 a0_3 a0_4 = some r) ∧ Aside0 (kq ≤ k) ∧ Aside0 (wc.heap[gb758]? = some (.cells #[.int .i64 a0_0, .string a0_1, .int .i32 a0_2, .bool a0_3, .int .u32 a0_4] 46 (0, 0))) ∧ Aside0 (Below w.heap.size w wc))
  case first =>
   have H := HC5.out; clear HC5; replace H := Yi H; rcases H with ⟨c10, H⟩ | ⟨c10, H⟩
   ·obtain ⟨c10b0, c10b1⟩ := Ye c10; clear c10
    (first | rw [c10b0] | (simp only [i64_w, i32_w]; rw [c10b0]) | skip)
    have H' := Aside0.mk H; clear H
    go_wp2
    repeat (go_quiet (fail); try go_wp2)
    go_meet
    case rel => exact ⟨_, ((a0_0 == 7)), Z2, H', ⟨Z14⟩, ⟨(Z8 BK758)⟩, ⟨Z75⟩⟩
   obtain ⟨c10b0, c10b1⟩ := Yn c10
   (first | rw [c10b0] | (simp only [i64_w, i32_w]; rw [c10b0]) | skip)
   have H' := Aside0.mk H; clear H
   go_wp2
   repeat (go_quiet (fail); try go_wp2)
   go_meet
   case rel => exact ⟨_, ((a0_0 == 8)), Z2, H', ⟨Z14⟩, ⟨(Z8 BK758)⟩, ⟨Z75⟩⟩
  case rest =>
   clear HC5; (try clear c1); (try clear p2); (try clear c3); (try clear c10); (try clear c10b0); (try clear c10b1); (try clear hcz7); (try clear hcz9); obtain ⟨kq, x12_4, rfl, HA, HJ4, BK758, HB⟩ := hcut
   cases kq with
   | zero => exact absurd HA.out (by simp [spec_ItemText.j0])
   | succ kj4 =>
    have H := HA.out; clear HA; simp only [spec_ItemText.j0] at H; by_cases c11 : x12_4 = true
    ·subst c11; replace H := Yt H; by_cases c12 : a0_3 = true
     ·subst c12; replace H := Yt H; replace H := Yg H; obtain ⟨c13, H⟩ := H; have c13b0 := eq_true c13; have c13b1 := decide_eq_true c13
      try have c13b2 : (9223372036854775807 < t760.size + 1) = False := eq_false (Nat.not_lt.2 c13)
      replace H := Yd H; obtain ⟨t761, A14, H⟩ := H; (try dsimp only at H); replace H := Yg H; obtain ⟨c15, H⟩ := H; have c15b0 := eq_true c15; have c15b1 := decide_eq_true c15
      try have c15b2 : (9223372036854775807 < (t760 ++ (⟨#[36]⟩ : ByteArray)).size + t761.size) = False := eq_false (Nat.not_lt.2 c15)
      try (have c15b3 := c15; simp only [ByteArray.size_append] at c15b3; replace c15b3 := eq_true c15b3)
      try (have c15b4 := c15b2; simp only [ByteArray.size_append] at c15b4; (try rw [show (⟨#[36]⟩ : ByteArray).size = 1 from rfl] at c15b4))
      obtain rfl := Option.some.inj H; have hcz16 := Yb5 BK758.out
      go_wp2_with (first | (go_at_call 59; (with_reducible refine (spec_HexText.calls kj4 ((a0_2) % 4294967296) t761 _ A14.out).mono ?_); rintro e w' ⟨rfl, ⟨nd, rfl⟩⟩; (try first | exact ⟨rfl, _, World.drewN_drewN _ _ _⟩ | exact ⟨rfl, _, Eq.trans (World.drewN_drewN _ _ _) (congrArg (World.drewN _) (Nat.add_assoc _ _ _))⟩)))
      repeat (go_quiet (first | (go_at_call 59; (with_reducible refine (spec_HexText.calls kj4 ((a0_2) % 4294967296) t761 _ A14.out).mono ?_); rintro e w' ⟨rfl, ⟨nd, rfl⟩⟩; (try first | exact ⟨rfl, _, World.drewN_drewN _ _ _⟩ | exact ⟨rfl, _, Eq.trans (World.drewN_drewN _ _ _) (congrArg (World.drewN _) (Nat.add_assoc _ _ _))⟩))); try go_wp2_with (first | (go_at_call 59; (with_reducible refine (spec_HexText.calls kj4 ((a0_2) % 4294967296) t761 _ A14.out).mono ?_); rintro e w' ⟨rfl, ⟨nd, rfl⟩⟩; (try first | exact ⟨rfl, _, World.drewN_drewN _ _ _⟩ | exact ⟨rfl, _, Eq.trans (World.drewN_drewN _ _ _) (congrArg (World.drewN _) (Nat.add_assoc _ _ _))⟩))))
      go_ret
      exact ⟨Z76, Z75⟩
     replace c12 := Bool.eq_false_iff.mpr c12; subst c12; replace H := Yf H; replace H := Yg H; obtain ⟨c17, H⟩ := H; have c17b0 := eq_true c17; have c17b1 := decide_eq_true c17
     try have c17b2 : (9223372036854775807 < t760.size + 1) = False := eq_false (Nat.not_lt.2 c17)
     replace H := Yd H; obtain ⟨t762, A18, H⟩ := H; (try dsimp only at H); replace H := Yg H; obtain ⟨c19, H⟩ := H; have c19b0 := eq_true c19; have c19b1 := decide_eq_true c19
     try have c19b2 : (9223372036854775807 < (t760 ++ (⟨#[35]⟩ : ByteArray)).size + t762.size) = False := eq_false (Nat.not_lt.2 c19)
     try (have c19b3 := c19; simp only [ByteArray.size_append] at c19b3; replace c19b3 := eq_true c19b3)
     try (have c19b4 := c19b2; simp only [ByteArray.size_append] at c19b4; (try rw [show (⟨#[35]⟩ : ByteArray).size = 1 from rfl] at c19b4))
     obtain rfl := Option.some.inj H; have hcz20 := Yb5 BK758.out
     go_wp2_with (first | (go_at_call 60; (with_reducible refine (spec_DecText.calls kj4 (wrap64 (a0_2)) t762 _ A18.out).mono ?_); rintro e w' ⟨rfl, ⟨nd, rfl⟩⟩; (try first | exact ⟨rfl, _, World.drewN_drewN _ _ _⟩ | exact ⟨rfl, _, Eq.trans (World.drewN_drewN _ _ _) (congrArg (World.drewN _) (Nat.add_assoc _ _ _))⟩)))
     repeat (go_quiet (first | (go_at_call 60; (with_reducible refine (spec_DecText.calls kj4 (wrap64 (a0_2)) t762 _ A18.out).mono ?_); rintro e w' ⟨rfl, ⟨nd, rfl⟩⟩; (try first | exact ⟨rfl, _, World.drewN_drewN _ _ _⟩ | exact ⟨rfl, _, Eq.trans (World.drewN_drewN _ _ _) (congrArg (World.drewN _) (Nat.add_assoc _ _ _))⟩))); try go_wp2_with (first | (go_at_call 60; (with_reducible refine (spec_DecText.calls kj4 (wrap64 (a0_2)) t762 _ A18.out).mono ?_); rintro e w' ⟨rfl, ⟨nd, rfl⟩⟩; (try first | exact ⟨rfl, _, World.drewN_drewN _ _ _⟩ | exact ⟨rfl, _, Eq.trans (World.drewN_drewN _ _ _) (congrArg (World.drewN _) (Nat.add_assoc _ _ _))⟩))))
     go_ret
     exact ⟨Z76, Z75⟩
    replace c11 := Bool.eq_false_iff.mpr c11; subst c11; replace H := Yf H; replace H := Yi H; rcases H with ⟨c21, H⟩ | ⟨c21, H⟩
    ·obtain ⟨c21b0, c21b1⟩ := Ye c21; clear c21; replace H := Yg H; obtain ⟨c22, H⟩ := H; have c22b0 := eq_true c22; have c22b1 := decide_eq_true c22
     try have c22b2 : (9223372036854775807 < t760.size + a0_1.size) = False := eq_false (Nat.not_lt.2 c22)
     replace H := Yg H; obtain ⟨c23, H⟩ := H; have c23b0 := eq_true c23; have c23b1 := decide_eq_true c23
     try have c23b2 : (9223372036854775807 < (t760 ++ a0_1).size + 1) = False := eq_false (Nat.not_lt.2 c23)
     try (have c23b3 := c23; simp only [ByteArray.size_append] at c23b3; replace c23b3 := eq_true c23b3)
     try (have c23b4 := c23b2; simp only [ByteArray.size_append] at c23b4)
     replace H := Yd H; obtain ⟨t763, A24, H⟩ := H; (try dsimp only at H); replace H := Yg H; obtain ⟨c25, H⟩ := H; have c25b0 := eq_true c25; have c25b1 := decide_eq_true c25
     try have c25b2 : (9223372036854775807 < ((t760 ++ a0_1) ++ (⟨#[35]⟩ : ByteArray)).size + t763.size) = False := eq_false (Nat.not_lt.2 c25)
     try (have c25b3 := c25; simp only [ByteArray.size_append] at c25b3; replace c25b3 := eq_true c25b3)
     try (have c25b4 := c25b2; simp only [ByteArray.size_append] at c25b4; (try rw [show (⟨#[35]⟩ : ByteArray).size = 1 from rfl] at c25b4))
     obtain rfl := Option.some.inj H; have hcz26 := Yb5 BK758.out
     go_wp2_with (first | (go_at_call 60; (with_reducible refine (spec_DecText.calls kj4 (wrap64 (a0_2)) t763 _ A24.out).mono ?_); rintro e w' ⟨rfl, ⟨nd, rfl⟩⟩; (try first | exact ⟨rfl, _, World.drewN_drewN _ _ _⟩ | exact ⟨rfl, _, Eq.trans (World.drewN_drewN _ _ _) (congrArg (World.drewN _) (Nat.add_assoc _ _ _))⟩)))
     repeat (go_quiet (first | (go_at_call 60; (with_reducible refine (spec_DecText.calls kj4 (wrap64 (a0_2)) t763 _ A24.out).mono ?_); rintro e w' ⟨rfl, ⟨nd, rfl⟩⟩; (try first | exact ⟨rfl, _, World.drewN_drewN _ _ _⟩ | exact ⟨rfl, _, Eq.trans (World.drewN_drewN _ _ _) (congrArg (World.drewN _) (Nat.add_assoc _ _ _))⟩))); try go_wp2_with (first | (go_at_call 60; (with_reducible refine (spec_DecText.calls kj4 (wrap64 (a0_2)) t763 _ A24.out).mono ?_); rintro e w' ⟨rfl, ⟨nd, rfl⟩⟩; (try first | exact ⟨rfl, _, World.drewN_drewN _ _ _⟩ | exact ⟨rfl, _, Eq.trans (World.drewN_drewN _ _ _) (congrArg (World.drewN _) (Nat.add_assoc _ _ _))⟩))))
     go_ret
     exact ⟨Z76, Z75⟩
    obtain ⟨c21b0, c21b1⟩ := Yn c21; replace H := Yi H; rcases H with ⟨c27, H⟩ | ⟨c27, H⟩
    ·obtain ⟨c27b0, c27b1⟩ := Ye c27; clear c27; replace H := Yd H; obtain ⟨t764, A28, H⟩ := H; (try dsimp only at H); replace H := Yg H; obtain ⟨c29, H⟩ := H; have c29b0 := eq_true c29; have c29b1 := decide_eq_true c29
     try have c29b2 : (9223372036854775807 < t760.size + t764.size) = False := eq_false (Nat.not_lt.2 c29)
     obtain rfl := Option.some.inj H; have hcz30 := Yb5 BK758.out
     go_wp2_with (first | (go_at_call 59; (with_reducible refine (spec_HexText.calls kj4 a0_4 t764 _ A28.out).mono ?_); rintro e w' ⟨rfl, ⟨nd, rfl⟩⟩; (try first | exact ⟨rfl, _, World.drewN_drewN _ _ _⟩ | exact ⟨rfl, _, Eq.trans (World.drewN_drewN _ _ _) (congrArg (World.drewN _) (Nat.add_assoc _ _ _))⟩)))
     repeat (go_quiet (first | (go_at_call 59; (with_reducible refine (spec_HexText.calls kj4 a0_4 t764 _ A28.out).mono ?_); rintro e w' ⟨rfl, ⟨nd, rfl⟩⟩; (try first | exact ⟨rfl, _, World.drewN_drewN _ _ _⟩ | exact ⟨rfl, _, Eq.trans (World.drewN_drewN _ _ _) (congrArg (World.drewN _) (Nat.add_assoc _ _ _))⟩))); try go_wp2_with (first | (go_at_call 59; (with_reducible refine (spec_HexText.calls kj4 a0_4 t764 _ A28.out).mono ?_); rintro e w' ⟨rfl, ⟨nd, rfl⟩⟩; (try first | exact ⟨rfl, _, World.drewN_drewN _ _ _⟩ | exact ⟨rfl, _, Eq.trans (World.drewN_drewN _ _ _) (congrArg (World.drewN _) (Nat.add_assoc _ _ _))⟩))))
     go_ret
     exact ⟨Z76, Z75⟩
    obtain ⟨c27b0, c27b1⟩ := Yn c27; replace H := Yg H; obtain ⟨c31, H⟩ := H; have c31b0 := eq_true c31; have c31b1 := decide_eq_true c31
    try have c31b2 : (9223372036854775807 < t760.size + a0_1.size) = False := eq_false (Nat.not_lt.2 c31)
    obtain rfl := Option.some.inj H; have hcz32 := Yb5 BK758.out
    go_wp2
    repeat (go_quiet (fail); try go_wp2)
    go_ret
    exact ⟨Z76, Z75⟩
 replace c3 := Bool.eq_false_iff.mpr c3; subst c3; replace H := Yf H; obtain rfl := Option.some.inj H; go_enter Tryz.func31, Tryz.ntmps31
 go_wp2_with (first | ((with_reducible refine gate_dst (N := 1) rfl ?_); refine box_event (by rfl) (N := 1) (by rfl) (cs := #[.int .i64 a0_0, .string a0_1, .int .i32 a0_2, .bool a0_3, .int .u32 a0_4]) (t := 46) Z7 ?_; intro gb758 hg w33 hbox hb; have BK758 := Z (hbox); have GW758 := Z ((Z99 : w.heap.size ≤ gb758)); have GE758 := Z ((Z99 : w.heap.size ≤ gb758)); replace HB := Z (below_step Z75 hb); clear hb hbox hg; have hcz34 := Yb5 BK758.out) | (go_at_call 57; (with_reducible refine (spec_ItemOk.calls k a0_0 a0_1 a0_2 a0_3 a0_4 false _ A2.out).mono ?_); rintro e w35 ⟨rfl, hb⟩; replace BK758 := Z (Yk10 BK758 hb); replace HB := Z (below_step Z75 hb); (try clear hb); (try clear hb2); (try clear hk); (try clear hi)))
 repeat (go_quiet (first | ((with_reducible refine gate_dst (N := 1) rfl ?_); refine box_event (by rfl) (N := 1) (by rfl) (cs := #[.int .i64 a0_0, .string a0_1, .int .i32 a0_2, .bool a0_3, .int .u32 a0_4]) (t := 46) Z7 ?_; intro gb758 hg w33 hbox hb; have BK758 := Z (hbox); have GW758 := Z ((Z99 : w.heap.size ≤ gb758)); have GE758 := Z ((Z99 : w.heap.size ≤ gb758)); replace HB := Z (below_step Z75 hb); clear hb hbox hg; have hcz34 := Yb5 BK758.out) | (go_at_call 57; (with_reducible refine (spec_ItemOk.calls k a0_0 a0_1 a0_2 a0_3 a0_4 false _ A2.out).mono ?_); rintro e w35 ⟨rfl, hb⟩; replace BK758 := Z (Yk10 BK758 hb); replace HB := Z (below_step Z75 hb); (try clear hb); (try clear hb2); (try clear hk); (try clear hi))); try go_wp2_with (first | ((with_reducible refine gate_dst (N := 1) rfl ?_); refine box_event (by rfl) (N := 1) (by rfl) (cs := #[.int .i64 a0_0, .string a0_1, .int .i32 a0_2, .bool a0_3, .int .u32 a0_4]) (t := 46) Z7 ?_; intro gb758 hg w33 hbox hb; have BK758 := Z (hbox); have GW758 := Z ((Z99 : w.heap.size ≤ gb758)); have GE758 := Z ((Z99 : w.heap.size ≤ gb758)); replace HB := Z (below_step Z75 hb); clear hb hbox hg; have hcz34 := Yb5 BK758.out) | (go_at_call 57; (with_reducible refine (spec_ItemOk.calls k a0_0 a0_1 a0_2 a0_3 a0_4 false _ A2.out).mono ?_); rintro e w35 ⟨rfl, hb⟩; replace BK758 := Z (Yk10 BK758 hb); replace HB := Z (below_step Z75 hb); (try clear hb); (try clear hb2); (try clear hk); (try clear hi))))
 go_ret
 exact ⟨Z76, Z75⟩

def spec_Export.l0 : Nat → List (S46) → ByteArray → Int → Option (ByteArray)
 | 0, _, _, _ => none
 | k + 1, x3, x4, x5 => if x5 < (x3.length : Int) then (if x5 > 0 then (if 0 ≤ x5 then (if ((rd_T46 x3 x5).f0) = 2 then (if x4.size + 1 ≤ 9223372036854775807 then ((spec_ItemText.f k ((rd_T46 x3 x5).f0) ((rd_T46 x3 x5).f1) ((rd_T46 x3 x5).f2) ((rd_T46 x3 x5).f3) ((rd_T46 x3 x5).f4)).bind fun t770 => (if (x4 ++ (⟨#[10]⟩ : ByteArray)).size + t770.size ≤ 9223372036854775807 then (spec_Export.l0 k x3 ((x4 ++ (⟨#[10]⟩ : ByteArray)) ++ t770) (wrap64 (x5 + 1))) else (none))) else (none)) else (if x4.size + 1 ≤ 9223372036854775807 then ((spec_ItemText.f k ((rd_T46 x3 x5).f0) ((rd_T46 x3 x5).f1) ((rd_T46 x3 x5).f2) ((rd_T46 x3 x5).f3) ((rd_T46 x3 x5).f4)).bind fun t772 => (if (x4 ++ (⟨#[32]⟩ : ByteArray)).size + t772.size ≤ 9223372036854775807 then (spec_Export.l0 k x3 ((x4 ++ (⟨#[32]⟩ : ByteArray)) ++ t772) (wrap64 (x5 + 1))) else (none))) else (none))) else (none)) else (if 0 ≤ x5 then ((spec_ItemText.f k ((rd_T46 x3 x5).f0) ((rd_T46 x3 x5).f1) ((rd_T46 x3 x5).f2) ((rd_T46 x3 x5).f3) ((rd_T46 x3 x5).f4)).bind fun t774 => (if x4.size + t774.size ≤ 9223372036854775807 then (spec_Export.l0 k x3 (x4 ++ t774) (wrap64 (x5 + 1))) else (none))) else (none))) else (if (x3.length : Int) > 0 then (if x4.size + 1 ≤ 9223372036854775807 then (some (x4 ++ (⟨#[10]⟩ : ByteArray))) else (none)) else (some x4))
def spec_Export.f (k : Nat) (l0 : List Int) : Option (ByteArray) := (spec_ParseCells.f k l0).bind fun t765 => (spec_Export.l0 k t765 (⟨#[]⟩ : ByteArray) 0)
theorem spec_Export.calls (k : Nat) (A0 : Option Addr) (c0 : Nat) (l0 : List Int) (r : ByteArray) (w : World) (hr0 : Kd.C (Kd.int .u32) w A0 l0.length l0) (hc0 : l0.length ≤ c0) (h : spec_Export.f k l0 = some r) :
  Calls Tryz.prog 11 #[.slice A0 l0.length c0] w fun e w' => e = .returned (.string r) ∧ Below w.heap.size w w' := by
 have hu46 := Tryz.underlying46; have HR0 := Aside0.mk hr0; have HC0 := Aside0.mk hc0; clear hr0 hc0; have HB := Z (Below.refl w.heap.size w); unfold spec_Export.f at h; have H := h; clear h; replace H := Yd H; obtain ⟨t765, A2, H⟩ := H; (try dsimp only at H); have H' := Aside0.mk H; clear H; go_enter Tryz.func11, Tryz.ntmps11
 go_wp2_with (first | ((with_reducible refine gate_callee (f := 30) rfl ?_); refine goesL_ (some 7) rfl rfl Tryz.func30 Z0 rfl #[.slice A0 l0.length c0] rfl Z10 ?_; (with_reducible refine (spec_ParseCells.calls k _ _ l0 t765 _ ?side1 ?side2 A2.out).mono ?_); (case side1 => exact (Z49 HR0)); (case side2 => exact HC0.out); rintro e w3 ⟨v766, rfl, ho0, hb⟩; refine ⟨_, rfl, ?_⟩; have HO767 := Z (Kd.R_lower ho0 (below_size Z75)); replace HB := Z (below_step Z75 hb); (try clear hb); (try clear hb2); (try clear hk); (try clear hi); (try clear ho0)))
 go_loopg [4, 5] k (fun kq v4 v5 w' => ∃ (x4_1 : ByteArray) (x5_1 : Int), v4 = .string x4_1 ∧ v5 = .int .i64 x5_1 ∧ Aside0 (spec_Export.l0 kq t765 x4_1 x5_1 = some r) ∧ Aside0 (kq ≤ k) ∧ Aside0 (Kd.R k46 46 w' w.heap.size (fun _ => True) v766 t765) ∧ Aside0 (Below w.heap.size w w'))
 case atStart => exact ⟨((⟨#[]⟩ : ByteArray)), (0), Z2, Z2, H', ⟨Nat.le_refl _⟩, ⟨(Z11 HO767)⟩, ⟨Z75⟩⟩
 case round =>
  clear H'; (try clear c1); (try clear p2); (try clear c3); obtain ⟨x4_1, x5_1, rfl, rfl, HA, HK1, HO_3, HB⟩ := hrel
  cases gk with
  | zero => exact absurd HA.out (by simp [spec_Export.l0])
  | succ k1 =>
   have H := HA.out; clear HA; simp only [spec_Export.l0] at H; replace H := Yi H; rcases H with ⟨c4, H⟩ | ⟨c4, H⟩
   ·have c4b0 := decide_eq_true c4; clear c4; replace H := Yi H; rcases H with ⟨c5, H⟩ | ⟨c5, H⟩
    ·have c5b0 : decide (0 < x5_1) = true := decide_eq_true c5; clear c5; replace H := Yg H; obtain ⟨c6, H⟩ := H; have c6b0 := decide_eq_true c6; clear c6; replace H := Yi H; rcases H with ⟨c7, H⟩ | ⟨c7, H⟩
     ·obtain ⟨c7b0, c7b1⟩ := Ye c7; clear c7; replace H := Yg H; obtain ⟨c8, H⟩ := H; have c8b0 := eq_true c8; have c8b1 := decide_eq_true c8
      try have c8b2 : (9223372036854775807 < x4_1.size + 1) = False := eq_false (Nat.not_lt.2 c8)
      replace H := Yd H; obtain ⟨t770, A9, H⟩ := H; (try dsimp only at H); replace H := Yg H; obtain ⟨c10, H⟩ := H; have c10b0 := eq_true c10; have c10b1 := decide_eq_true c10
      try have c10b2 : (9223372036854775807 < (x4_1 ++ (⟨#[10]⟩ : ByteArray)).size + t770.size) = False := eq_false (Nat.not_lt.2 c10)
      try (have c10b3 := c10; simp only [ByteArray.size_append] at c10b3; replace c10b3 := eq_true c10b3)
      try (have c10b4 := c10b2; simp only [ByteArray.size_append] at c10b4; (try rw [show (⟨#[10]⟩ : ByteArray).size = 1 from rfl] at c10b4))
      have H' := Aside0.mk H; clear H; obtain ⟨Ao11, co11, eo11⟩ := Kd.R_slice HO_3.out; subst eo11; have p768 : 0 ≤ (x5_1 : Int) := of_decide_eq_true Z5; have q768 : x5_1 < (t765.length : Int) := of_decide_eq_true Z5; obtain ⟨ad768, e768, hx768_0, hx768_1, hx768_2, hx768_3, hx768_4⟩ := at_T46 (Kd.R_reads' HO_3.out).2.2 x5_1 p768 q768
      cases e768
      replace p768 := eq_true p768; replace q768 := eq_true q768; have p769 : 0 ≤ (x5_1 : Int) := of_decide_eq_true Z5; have q769 : x5_1 < (t765.length : Int) := of_decide_eq_true Z5; obtain ⟨ad769, e769, hx769_0, hx769_1, hx769_2, hx769_3, hx769_4⟩ := at_T46 (Kd.R_reads' HO_3.out).2.2 x5_1 p769 q769; obtain rfl : ad768 = ad769 := (by injection e769); replace p769 := eq_true p769; replace q769 := eq_true q769
      go_wp2_with (first | ((with_reducible refine gate_callee (f := 31) rfl ?_); refine goesL_ (some 31) rfl rfl Tryz.func31 Z0 rfl #[.agg #[.int .i64 ((rd_T46 t765 x5_1).f0), .string ((rd_T46 t765 x5_1).f1), .int .i32 ((rd_T46 t765 x5_1).f2), .bool ((rd_T46 t765 x5_1).f3), .int .u32 ((rd_T46 t765 x5_1).f4)]] rfl Z10 ?_; (with_reducible refine (spec_ItemText.calls k1 ((rd_T46 t765 x5_1).f0) ((rd_T46 t765 x5_1).f1) ((rd_T46 t765 x5_1).f2) ((rd_T46 t765 x5_1).f3) ((rd_T46 t765 x5_1).f4) t770 _ A9.out).mono ?_); rintro e w12 ⟨rfl, hb⟩; refine ⟨_, rfl, ?_⟩; replace HO_3 := Z (Kd.R_below (Z11 HO_3) hb); replace HB := Z (below_step Z75 hb); (try clear hb); (try clear hb2); (try clear hk); (try clear hi)))
      go_roundg k1
      case measure => have := HK1.out; omega
      case rel => exact ⟨((x4_1 ++ (⟨#[10]⟩ : ByteArray)) ++ t770), (wrap64 (x5_1 + 1)), Z2, Z2, H', ⟨Z6⟩, ⟨(Z11 HO_3)⟩, ⟨Z75⟩⟩
     obtain ⟨c7b0, c7b1⟩ := Yn c7; replace H := Yg H; obtain ⟨c13, H⟩ := H; have c13b0 := eq_true c13; have c13b1 := decide_eq_true c13
     try have c13b2 : (9223372036854775807 < x4_1.size + 1) = False := eq_false (Nat.not_lt.2 c13)
     replace H := Yd H; obtain ⟨t772, A14, H⟩ := H; (try dsimp only at H); replace H := Yg H; obtain ⟨c15, H⟩ := H; have c15b0 := eq_true c15; have c15b1 := decide_eq_true c15
     try have c15b2 : (9223372036854775807 < (x4_1 ++ (⟨#[32]⟩ : ByteArray)).size + t772.size) = False := eq_false (Nat.not_lt.2 c15)
     try (have c15b3 := c15; simp only [ByteArray.size_append] at c15b3; replace c15b3 := eq_true c15b3)
     try (have c15b4 := c15b2; simp only [ByteArray.size_append] at c15b4; (try rw [show (⟨#[32]⟩ : ByteArray).size = 1 from rfl] at c15b4))
     have H' := Aside0.mk H; clear H; obtain ⟨Ao16, co16, eo16⟩ := Kd.R_slice HO_3.out; subst eo16; have p768 : 0 ≤ (x5_1 : Int) := of_decide_eq_true Z5; have q768 : x5_1 < (t765.length : Int) := of_decide_eq_true Z5; obtain ⟨ad768, e768, hx768_0, hx768_1, hx768_2, hx768_3, hx768_4⟩ := at_T46 (Kd.R_reads' HO_3.out).2.2 x5_1 p768 q768
     cases e768
     replace p768 := eq_true p768; replace q768 := eq_true q768; have p771 : 0 ≤ (x5_1 : Int) := of_decide_eq_true Z5; have q771 : x5_1 < (t765.length : Int) := of_decide_eq_true Z5; obtain ⟨ad771, e771, hx771_0, hx771_1, hx771_2, hx771_3, hx771_4⟩ := at_T46 (Kd.R_reads' HO_3.out).2.2 x5_1 p771 q771; obtain rfl : ad768 = ad771 := (by injection e771); replace p771 := eq_true p771; replace q771 := eq_true q771
     go_wp2_with (first | ((with_reducible refine gate_callee (f := 31) rfl ?_); refine goesL_ (some 31) rfl rfl Tryz.func31 Z0 rfl #[.agg #[.int .i64 ((rd_T46 t765 x5_1).f0), .string ((rd_T46 t765 x5_1).f1), .int .i32 ((rd_T46 t765 x5_1).f2), .bool ((rd_T46 t765 x5_1).f3), .int .u32 ((rd_T46 t765 x5_1).f4)]] rfl Z10 ?_; (with_reducible refine (spec_ItemText.calls k1 ((rd_T46 t765 x5_1).f0) ((rd_T46 t765 x5_1).f1) ((rd_T46 t765 x5_1).f2) ((rd_T46 t765 x5_1).f3) ((rd_T46 t765 x5_1).f4) t772 _ A14.out).mono ?_); rintro e w17 ⟨rfl, hb⟩; refine ⟨_, rfl, ?_⟩; replace HO_3 := Z (Kd.R_below (Z11 HO_3) hb); replace HB := Z (below_step Z75 hb); (try clear hb); (try clear hb2); (try clear hk); (try clear hi)))
     go_roundg k1
     case measure => have := HK1.out; omega
     case rel => exact ⟨((x4_1 ++ (⟨#[32]⟩ : ByteArray)) ++ t772), (wrap64 (x5_1 + 1)), Z2, Z2, H', ⟨Z6⟩, ⟨(Z11 HO_3)⟩, ⟨Z75⟩⟩
    have c5b0 : decide (0 < x5_1) = false := decide_eq_false c5; clear c5; replace H := Yg H; obtain ⟨c18, H⟩ := H; have c18b0 := decide_eq_true c18; clear c18; replace H := Yd H; obtain ⟨t774, A19, H⟩ := H; (try dsimp only at H); replace H := Yg H; obtain ⟨c20, H⟩ := H; have c20b0 := eq_true c20; have c20b1 := decide_eq_true c20
    try have c20b2 : (9223372036854775807 < x4_1.size + t774.size) = False := eq_false (Nat.not_lt.2 c20)
    have H' := Aside0.mk H; clear H; obtain ⟨Ao21, co21, eo21⟩ := Kd.R_slice HO_3.out; subst eo21; have p773 : 0 ≤ (x5_1 : Int) := of_decide_eq_true Z5; have q773 : x5_1 < (t765.length : Int) := of_decide_eq_true Z5; obtain ⟨ad773, e773, hx773_0, hx773_1, hx773_2, hx773_3, hx773_4⟩ := at_T46 (Kd.R_reads' HO_3.out).2.2 x5_1 p773 q773
    cases e773
    replace p773 := eq_true p773; replace q773 := eq_true q773
    go_wp2_with (first | ((with_reducible refine gate_callee (f := 31) rfl ?_); refine goesL_ (some 31) rfl rfl Tryz.func31 Z0 rfl #[.agg #[.int .i64 ((rd_T46 t765 x5_1).f0), .string ((rd_T46 t765 x5_1).f1), .int .i32 ((rd_T46 t765 x5_1).f2), .bool ((rd_T46 t765 x5_1).f3), .int .u32 ((rd_T46 t765 x5_1).f4)]] rfl Z10 ?_; (with_reducible refine (spec_ItemText.calls k1 ((rd_T46 t765 x5_1).f0) ((rd_T46 t765 x5_1).f1) ((rd_T46 t765 x5_1).f2) ((rd_T46 t765 x5_1).f3) ((rd_T46 t765 x5_1).f4) t774 _ A19.out).mono ?_); rintro e w22 ⟨rfl, hb⟩; refine ⟨_, rfl, ?_⟩; replace HO_3 := Z (Kd.R_below (Z11 HO_3) hb); replace HB := Z (below_step Z75 hb); (try clear hb); (try clear hb2); (try clear hk); (try clear hi)))
    go_roundg k1
    case measure => have := HK1.out; omega
    case rel => exact ⟨(x4_1 ++ t774), (wrap64 (x5_1 + 1)), Z2, Z2, H', ⟨Z6⟩, ⟨(Z11 HO_3)⟩, ⟨Z75⟩⟩
   have c4b0 := decide_eq_false c4; clear c4; replace H := Yi H; rcases H with ⟨c23, H⟩ | ⟨c23, H⟩
   ·have c23b0 : decide (0 < (t765.length : Int)) = true := decide_eq_true c23; have c23b1 : decide (0 < t765.length) = true := decide_eq_true (by omega); clear c23; replace H := Yg H; obtain ⟨c24, H⟩ := H; have c24b0 := eq_true c24; have c24b1 := decide_eq_true c24
    try have c24b2 : (9223372036854775807 < x4_1.size + 1) = False := eq_false (Nat.not_lt.2 c24)
    obtain rfl := Option.some.inj H; obtain ⟨Ao25, co25, eo25⟩ := Kd.R_slice HO_3.out; subst eo25
    go_wp2
    go_ret
    exact ⟨Z76, Z75⟩
   have c23b0 : decide (0 < (t765.length : Int)) = false := decide_eq_false c23; have c23b1 : decide (0 < t765.length) = false := decide_eq_false (by omega); clear c23; obtain rfl := Option.some.inj H; obtain ⟨Ao26, co26, eo26⟩ := Kd.R_slice HO_3.out; subst eo26
   go_wp2
   go_ret
   exact ⟨Z76, Z75⟩

def laws_FnNotes.j0 : Nat → List Int → ByteArray → Bool → Option (Bool)
 | 0, _, _, _ => none
 | k + 1, x3, x4, x20 => if x20 = true then (if (x4.size : Int) > 6000 then (some true) else (some (x4.toList == ([] : List UInt8)))) else ((impl_Import.f k x4).bind fun bt780 => (if bt780.2.1 = 0 then ((laws_padded.f k bt780.1).bind fun t787 => ((laws_padded.f k x3).bind fun t790 => ((laws_sameCells.f k t787 t790).bind fun t793 => (if t793 = true then ((spec_Export.f k x3).bind fun t794 => (some (x4.toList == t794.toList))) else (some false))))) else (some false)))
def laws_FnNotes.f (k : Nat) (l0 : List Int) : Option (Bool) := (laws_big.f l0).bind fun t775 => (if t775 = true then (some true) else ((spec_DrawExport.f k l0).bind fun t776 => ((impl_Export.f k t776).bind fun t779 => (if (t776.length : Int) > 64 then (laws_FnNotes.j0 k t776 t779 true) else (laws_FnNotes.j0 k t776 t779 (decide ((t779.size : Int) > 6000)))))))
theorem laws_FnNotes.calls (k : Nat) (A0 : Option Addr) (c0 : Nat) (l0 : List Int) (r : Bool) (w : World) (hr0 : Kd.C (Kd.int .u8) w A0 l0.length l0) (hc0 : l0.length ≤ c0) (h : laws_FnNotes.f k l0 = some r) (HT0 : Aside0 (Atoi.Tab w)) :
  Calls Tryz.prog 3 #[.slice A0 l0.length c0] w fun e w' => e = .returned (.bool r) ∧ Below w.heap.size w w' := by
 have HT1 : Aside0 (Itoa.Tab w) := ⟨HT0.out.1⟩; have hu28 := Tryz.underlying28; have HR0 := Aside0.mk hr0; have HC0 := Aside0.mk hc0; clear hr0 hc0; have HB := Z (Below.refl w.heap.size w); unfold laws_FnNotes.f at h; have H := h; clear h; replace H := Yd H; obtain ⟨t775, A2, H⟩ := H; (try dsimp only at H); by_cases c3 : t775 = true
 ·subst c3; replace H := Yt H; obtain rfl := Option.some.inj H; go_enter Tryz.func3, Tryz.ntmps3
  go_wp2_with (first | ((with_reducible refine gate_callee (f := 5) rfl ?_); refine goesL_ (some 8) rfl rfl Tryz.func5 Z0 rfl #[.slice A0 l0.length c0] rfl Z10 ?_; (with_reducible refine (laws_big.calls _ _ l0 true _ ?side1 ?side2 A2.out).mono ?_); (case side1 => exact (Z49 HR0)); (case side2 => exact HC0.out); rintro e w' ⟨rfl, ⟨nd, rfl⟩⟩; refine ⟨_, rfl, ?_⟩))
  go_ret
  exact ⟨Z76, Z75⟩
 replace c3 := Bool.eq_false_iff.mpr c3; subst c3; replace H := Yf H; replace H := Yd H; obtain ⟨t776, A4, H⟩ := H; (try dsimp only at H); replace H := Yd H; obtain ⟨t779, A5, H⟩ := H; (try dsimp only at H); have HC6 := Aside0.mk H; clear H; go_enter Tryz.func3, Tryz.ntmps3
 go_upto_region 5 with (first | ((with_reducible refine gate_callee (f := 5) rfl ?_); refine goesL_ (some 8) rfl rfl Tryz.func5 Z0 rfl #[.slice A0 l0.length c0] rfl Z10 ?_; (with_reducible refine (laws_big.calls _ _ l0 false _ ?side1 ?side2 A2.out).mono ?_); (case side1 => exact (Z49 HR0)); (case side2 => exact HC0.out); rintro e w' ⟨rfl, ⟨nd, rfl⟩⟩; refine ⟨_, rfl, ?_⟩) | ((with_reducible refine gate_callee (f := 6) rfl ?_); refine goesL_ (some 10) rfl rfl Tryz.func6 Z0 rfl #[.slice A0 l0.length c0] rfl Z10 ?_; (with_reducible refine (spec_DrawExport.calls k _ _ l0 t776 _ ?side1 ?side2 A4.out).mono ?_); (case side1 => exact (Z49 HR0)); (case side2 => exact HC0.out); rintro e w7 ⟨v777, rfl, ho0, hb⟩; refine ⟨_, rfl, ?_⟩; have HO778 := Z (Kd.R_lower ho0 (below_size Z75)); replace HB := Z (below_step Z75 hb); (try clear hb); (try clear hb2); (try clear hk); (try clear hi); (try clear ho0); obtain ⟨Ao8, co8, eo8⟩ := Kd.R_slice HO778.out; subst eo8) | ((with_reducible refine gate_callee (f := 7) rfl ?_); refine goesL_ (some 12) rfl rfl Tryz.func7 Z0 rfl #[.slice Ao8 t776.length co8] rfl Z10 ?_; (with_reducible refine (impl_Export.calls k _ _ t776 t779 _ ?side1 ?side2 A5.out ⟨Itoa.tab_at HT1.out Z85⟩).mono ?_); (case side1 => exact (Z16 HO778)); (case side2 => exact (Kd.R_reads' HO778.out).2.1); rintro e w9 ⟨rfl, hb⟩; refine ⟨_, rfl, ?_⟩; replace HO778 := Z (Kd.R_below (Z11 HO778) hb); replace HB := Z (below_step Z75 hb); (try clear hb); (try clear hb2); (try clear hk); (try clear hi)))
 (try simp only [Act.put, List.setIfInBounds_toArray, List.set_cons_zero, List.set_cons_succ])
 go_cut [20] (fun v20 wc => ∃ (kq : Nat) (x20_5 : Bool), v20 = .bool x20_5 ∧ Aside0 (laws_FnNotes.j0 kq t776 t779 x20_5 = some r) ∧ Aside0 (kq ≤ k) ∧ Aside0 (Kd.R (Kd.int .u32) 44 wc w.heap.size (fun _ => True) (.slice Ao8 t776.length co8) t776) ∧ Aside0 (Below w.heap.size w wc))
 case first =>
  have H := HC6.out; clear HC6; replace H := Yi H; rcases H with ⟨c10, H⟩ | ⟨c10, H⟩
  ·have c10b0 : decide (64 < (t776.length : Int)) = true := decide_eq_true c10; have c10b1 : decide (64 < t776.length) = true := decide_eq_true (by omega); clear c10
   (first | rw [c10b0] | (simp only [i64_w, i32_w]; rw [c10b0]) | skip)
   have H' := Aside0.mk H; clear H
   go_wp2
   go_meet
   case rel => exact ⟨_, (true), Z2, H', ⟨Z14⟩, ⟨(Z11 HO778)⟩, ⟨Z75⟩⟩
  have c10b0 : decide (64 < (t776.length : Int)) = false := decide_eq_false c10; have c10b1 : decide (64 < t776.length) = false := decide_eq_false (by omega); clear c10
  (first | rw [c10b0] | (simp only [i64_w, i32_w]; rw [c10b0]) | skip)
  have H' := Aside0.mk H; clear H
  go_wp2
  go_meet
  case rel => exact ⟨_, (decide ((t779.size : Int) > 6000)), Z2, H', ⟨Z14⟩, ⟨(Z11 HO778)⟩, ⟨Z75⟩⟩
 case rest =>
  clear HC6; (try clear c1); (try clear p2); (try clear c3); (try clear c5); (try clear c6); (try clear c7); (try clear c10); (try clear c10b0); (try clear c10b1); obtain ⟨kq, x20_5, rfl, HA, HJ5, HO_3, HB⟩ := hcut
  cases kq with
  | zero => exact absurd HA.out (by simp [laws_FnNotes.j0])
  | succ kj5 =>
   have H := HA.out; clear HA; simp only [laws_FnNotes.j0] at H; by_cases c11 : x20_5 = true
   ·subst c11; replace H := Yt H; replace H := Yi H; rcases H with ⟨c12, H⟩ | ⟨c12, H⟩
    ·have c12b0 : decide (6000 < (t779.size : Int)) = true := decide_eq_true c12; have c12b1 : decide (6000 < t779.size) = true := decide_eq_true (by omega); clear c12; obtain rfl := Option.some.inj H
     go_wp2
     go_ret
     exact ⟨Z76, Z75⟩
    have c12b0 : decide (6000 < (t779.size : Int)) = false := decide_eq_false c12; have c12b1 : decide (6000 < t779.size) = false := decide_eq_false (by omega); clear c12; obtain rfl := Option.some.inj H
    go_wp2
    go_ret
    exact ⟨Z76, Z75⟩
   replace c11 := Bool.eq_false_iff.mpr c11; subst c11; replace H := Yf H; replace H := Yd H; obtain ⟨⟨t780, t783, t784, t785⟩, A13, H⟩ := H; (try dsimp only at H); replace H := Yi H; rcases H with ⟨c14, H⟩ | ⟨c14, H⟩
   ·obtain ⟨c14b0, c14b1⟩ := Ye c14; clear c14; replace H := Yd H; obtain ⟨t787, A15, H⟩ := H; (try dsimp only at H); replace H := Yd H; obtain ⟨t790, A16, H⟩ := H; (try dsimp only at H); replace H := Yd H; obtain ⟨t793, A17, H⟩ := H; (try dsimp only at H); by_cases c18 : t793 = true
    ·subst c18; replace H := Yt H; replace H := Yd H; obtain ⟨t794, A19, H⟩ := H; (try dsimp only at H); obtain rfl := Option.some.inj H
     go_wp2_with (first | ((with_reducible refine gate_callee (f := 8) rfl ?_); refine goesL_ (some 30) rfl rfl Tryz.func8 Z0 rfl #[.string t779] rfl Z10 ?_; (with_reducible refine (impl_Import.calls kj5 t779 t780 t783 t784 t785 _ A13.out ⟨Atoi.tab_at HT0.out Z85⟩).mono ?_); rintro e w20 ⟨v781, rfl, ho0, hb⟩; refine ⟨_, rfl, ?_⟩; have HO782 := Z (Kd.R_lower (Kd.R_new' ho0 (Kd.R_lt (Z11 HO_3))) (below_size Z75)); replace HO_3 := Z (Kd.R_elder' (Z11 HO_3) (Kd.R_base ho0) hb); replace HB := Z (below_step Z75 hb); (try clear hb); (try clear hb2); (try clear hk); (try clear hi); (try clear ho0)) | ((with_reducible refine gate_dst (N := 6) rfl ?_); (try (refine gate_guard (by rfl) ?_; dsimp only)); refine box_event (by rfl) (N := 6) (by rfl) (cs := #[.int .i64 0, .int .i64 0, .int .i64 0]) (t := 28) Z7 ?_; intro gb786 hg w21 hbox hb; replace HO_3 := Z (Kd.R_below (Z11 HO_3) hb); replace HO782 := Z (Kd.R_below (Z11 HO782) hb); have BK786 := Z (hbox); have GW786 := Z ((Z99 : w.heap.size ≤ gb786)); have GE786 := Z ((Z99 : w.heap.size ≤ gb786)); replace HB := Z (below_step Z75 hb); clear hb hbox hg; have hcz22 := Yb3 BK786.out; obtain ⟨Ao23, co23, eo23⟩ := Kd.R_slice HO782.out; subst eo23) | (go_at_call 10; (with_reducible refine (laws_padded.calls kj5 _ _ t780 t787 _ ?side1 ?side2 A15.out).mono ?_); (case side1 => exact (by refine (Kd.R_reads' (e := 44) (base := w.heap.size) (ok := fun k_ => (True ∧ some k_ ≠ (.slice Ao8 t776.length co8 : Value).ownBlock)) (n := t780.length) (c := co23) ?_).2.2; exact (by (with_reducible repeat (first | apply Kd.R_alloc | apply Kd.R_drewN | apply Kd.R_drew)); exact (Kd.R_mono (Kd.R_far (p := ⟨gb786, 2, none⟩) (Kd.R_far (p := ⟨gb786, 1, none⟩) (Kd.R_far (p := ⟨gb786, 0, none⟩) (Kd.R_types HO782.out BK786.out (by decide)) (fun _ hk => hk.2) (.int .i64 t783)) (fun _ hk => hk.2) (.int .i64 t784)) (fun _ hk => hk.2) (.int .i64 t785)) (fun _ h_ => h_.1))))); (case side2 => exact (Kd.R_reads' HO782.out).2.1); rintro e w24 ⟨v788, rfl, ho0, hb⟩; have HO789 := Z (Kd.R_lower (Kd.R_new' (Kd.R_new' ho0 (Kd.R_lt (by (with_reducible repeat (first | apply Kd.R_alloc | apply Kd.R_drewN | apply Kd.R_drew)); exact (Kd.R_mono (Kd.R_far (p := ⟨gb786, 2, none⟩) (Kd.R_far (p := ⟨gb786, 1, none⟩) (Kd.R_far (p := ⟨gb786, 0, none⟩) (Kd.R_types HO_3.out BK786.out (by decide)) (fun _ hk => hk.2) (.int .i64 t783)) (fun _ hk => hk.2) (.int .i64 t784)) (fun _ hk => hk.2) (.int .i64 t785)) (fun _ h_ => h_.1))))) (Kd.R_lt (by (with_reducible repeat (first | apply Kd.R_alloc | apply Kd.R_drewN | apply Kd.R_drew)); exact (Kd.R_mono (Kd.R_far (p := ⟨gb786, 2, none⟩) (Kd.R_far (p := ⟨gb786, 1, none⟩) (Kd.R_far (p := ⟨gb786, 0, none⟩) (Kd.R_types HO782.out BK786.out (by decide)) (fun _ hk => hk.2) (.int .i64 t783)) (fun _ hk => hk.2) (.int .i64 t784)) (fun _ hk => hk.2) (.int .i64 t785)) (fun _ h_ => h_.1))))) (below_size Z75)); replace HO_3 := Z (Kd.R_elder' (by (with_reducible repeat (first | apply Kd.R_alloc | apply Kd.R_drewN | apply Kd.R_drew)); exact (Kd.R_mono (Kd.R_far (p := ⟨gb786, 2, none⟩) (Kd.R_far (p := ⟨gb786, 1, none⟩) (Kd.R_far (p := ⟨gb786, 0, none⟩) (Kd.R_types HO_3.out BK786.out (by decide)) (fun _ hk => hk.2) (.int .i64 t783)) (fun _ hk => hk.2) (.int .i64 t784)) (fun _ hk => hk.2) (.int .i64 t785)) (fun _ h_ => h_.1))) (Kd.R_base ho0) hb); replace HO782 := Z (Kd.R_elder' (by (with_reducible repeat (first | apply Kd.R_alloc | apply Kd.R_drewN | apply Kd.R_drew)); exact (Kd.R_mono (Kd.R_far (p := ⟨gb786, 2, none⟩) (Kd.R_far (p := ⟨gb786, 1, none⟩) (Kd.R_far (p := ⟨gb786, 0, none⟩) (Kd.R_types HO782.out BK786.out (by decide)) (fun _ hk => hk.2) (.int .i64 t783)) (fun _ hk => hk.2) (.int .i64 t784)) (fun _ hk => hk.2) (.int .i64 t785)) (fun _ h_ => h_.1))) (Kd.R_base ho0) hb); replace BK786 := Z (blk_below (g := gb786) (o := .cells #[.int .i64 t783, .int .i64 t784, .int .i64 t785] 28 (0, 0)) (Z73 BK786) hb); replace HB := Z (below_step Z75 hb); (try clear hb); (try clear hb2); (try clear hk); (try clear hi); (try clear ho0)) | (go_at_call 10; (with_reducible refine (laws_padded.calls kj5 _ _ t776 t790 _ ?side1 ?side2 A16.out).mono ?_); (case side1 => exact (Z16 HO_3)); (case side2 => exact (Kd.R_reads' HO_3.out).2.1); rintro e w25 ⟨v791, rfl, ho0, hb⟩; have HO792 := Z (Kd.R_lower (Kd.R_new' (Kd.R_new' (Kd.R_new' ho0 (Kd.R_lt (Z11 HO_3))) (Kd.R_lt (Z11 HO782))) (Kd.R_lt (Z11 HO789))) (below_size Z75)); replace HO_3 := Z (Kd.R_elder' (Z11 HO_3) (Kd.R_base ho0) hb); replace HO782 := Z (Kd.R_elder' (Z11 HO782) (Kd.R_base ho0) hb); replace HO789 := Z (Kd.R_elder' (Z11 HO789) (Kd.R_base ho0) hb); replace BK786 := Z (Yk10 BK786 hb); replace HB := Z (below_step Z75 hb); (try clear hb); (try clear hb2); (try clear hk); (try clear hi); (try clear ho0); obtain ⟨Ao26, co26, eo26⟩ := Kd.R_slice HO789.out; subst eo26; obtain ⟨Ao27, co27, eo27⟩ := Kd.R_slice HO792.out; subst eo27) | (go_at_call 9; (with_reducible refine (laws_sameCells.calls kj5 _ _ t787 _ _ t790 true _ ?side1 ?side2 ?side3 ?side4 A17.out).mono ?_); (case side1 => exact (Z16 HO789)); (case side2 => exact (Kd.R_reads' HO789.out).2.1); (case side3 => exact (Z16 HO792)); (case side4 => exact (Kd.R_reads' HO792.out).2.1); rintro e w' ⟨rfl, ⟨nd, rfl⟩⟩) | (go_at_call 11; (with_reducible refine (spec_Export.calls kj5 _ _ t776 t794 _ ?side1 ?side2 A19.out).mono ?_); (case side1 => exact (Z16 HO_3)); (case side2 => exact (Kd.R_reads' HO_3.out).2.1); rintro e w28 ⟨rfl, hb⟩; replace HO_3 := Z (Kd.R_below (Z11 HO_3) hb); replace HO782 := Z (Kd.R_below (Z11 HO782) hb); replace HO789 := Z (Kd.R_below (Z11 HO789) hb); replace HO792 := Z (Kd.R_below (Z11 HO792) hb); replace BK786 := Z (Yk10 BK786 hb); replace HB := Z (below_step Z75 hb); (try clear hb); (try clear hb2); (try clear hk); (try clear hi)))
     go_ret
     exact ⟨Z76, Z75⟩
    replace c18 := Bool.eq_false_iff.mpr c18; subst c18; replace H := Yf H; obtain rfl := Option.some.inj H
    go_wp2_with (first | ((with_reducible refine gate_callee (f := 8) rfl ?_); refine goesL_ (some 30) rfl rfl Tryz.func8 Z0 rfl #[.string t779] rfl Z10 ?_; (with_reducible refine (impl_Import.calls kj5 t779 t780 t783 t784 t785 _ A13.out ⟨Atoi.tab_at HT0.out Z85⟩).mono ?_); rintro e w29 ⟨v781, rfl, ho0, hb⟩; refine ⟨_, rfl, ?_⟩; have HO782 := Z (Kd.R_lower (Kd.R_new' ho0 (Kd.R_lt (Z11 HO_3))) (below_size Z75)); replace HO_3 := Z (Kd.R_elder' (Z11 HO_3) (Kd.R_base ho0) hb); replace HB := Z (below_step Z75 hb); (try clear hb); (try clear hb2); (try clear hk); (try clear hi); (try clear ho0)) | ((with_reducible refine gate_dst (N := 6) rfl ?_); (try (refine gate_guard (by rfl) ?_; dsimp only)); refine box_event (by rfl) (N := 6) (by rfl) (cs := #[.int .i64 0, .int .i64 0, .int .i64 0]) (t := 28) Z7 ?_; intro gb786 hg w30 hbox hb; replace HO_3 := Z (Kd.R_below (Z11 HO_3) hb); replace HO782 := Z (Kd.R_below (Z11 HO782) hb); have BK786 := Z (hbox); have GW786 := Z ((Z99 : w.heap.size ≤ gb786)); have GE786 := Z ((Z99 : w.heap.size ≤ gb786)); replace HB := Z (below_step Z75 hb); clear hb hbox hg; have hcz31 := Yb3 BK786.out; obtain ⟨Ao32, co32, eo32⟩ := Kd.R_slice HO782.out; subst eo32) | (go_at_call 10; (with_reducible refine (laws_padded.calls kj5 _ _ t780 t787 _ ?side1 ?side2 A15.out).mono ?_); (case side1 => exact (by refine (Kd.R_reads' (e := 44) (base := w.heap.size) (ok := fun k_ => (True ∧ some k_ ≠ (.slice Ao8 t776.length co8 : Value).ownBlock)) (n := t780.length) (c := co32) ?_).2.2; exact (by (with_reducible repeat (first | apply Kd.R_alloc | apply Kd.R_drewN | apply Kd.R_drew)); exact (Kd.R_mono (Kd.R_far (p := ⟨gb786, 2, none⟩) (Kd.R_far (p := ⟨gb786, 1, none⟩) (Kd.R_far (p := ⟨gb786, 0, none⟩) (Kd.R_types HO782.out BK786.out (by decide)) (fun _ hk => hk.2) (.int .i64 t783)) (fun _ hk => hk.2) (.int .i64 t784)) (fun _ hk => hk.2) (.int .i64 t785)) (fun _ h_ => h_.1))))); (case side2 => exact (Kd.R_reads' HO782.out).2.1); rintro e w33 ⟨v788, rfl, ho0, hb⟩; have HO789 := Z (Kd.R_lower (Kd.R_new' (Kd.R_new' ho0 (Kd.R_lt (by (with_reducible repeat (first | apply Kd.R_alloc | apply Kd.R_drewN | apply Kd.R_drew)); exact (Kd.R_mono (Kd.R_far (p := ⟨gb786, 2, none⟩) (Kd.R_far (p := ⟨gb786, 1, none⟩) (Kd.R_far (p := ⟨gb786, 0, none⟩) (Kd.R_types HO_3.out BK786.out (by decide)) (fun _ hk => hk.2) (.int .i64 t783)) (fun _ hk => hk.2) (.int .i64 t784)) (fun _ hk => hk.2) (.int .i64 t785)) (fun _ h_ => h_.1))))) (Kd.R_lt (by (with_reducible repeat (first | apply Kd.R_alloc | apply Kd.R_drewN | apply Kd.R_drew)); exact (Kd.R_mono (Kd.R_far (p := ⟨gb786, 2, none⟩) (Kd.R_far (p := ⟨gb786, 1, none⟩) (Kd.R_far (p := ⟨gb786, 0, none⟩) (Kd.R_types HO782.out BK786.out (by decide)) (fun _ hk => hk.2) (.int .i64 t783)) (fun _ hk => hk.2) (.int .i64 t784)) (fun _ hk => hk.2) (.int .i64 t785)) (fun _ h_ => h_.1))))) (below_size Z75)); replace HO_3 := Z (Kd.R_elder' (by (with_reducible repeat (first | apply Kd.R_alloc | apply Kd.R_drewN | apply Kd.R_drew)); exact (Kd.R_mono (Kd.R_far (p := ⟨gb786, 2, none⟩) (Kd.R_far (p := ⟨gb786, 1, none⟩) (Kd.R_far (p := ⟨gb786, 0, none⟩) (Kd.R_types HO_3.out BK786.out (by decide)) (fun _ hk => hk.2) (.int .i64 t783)) (fun _ hk => hk.2) (.int .i64 t784)) (fun _ hk => hk.2) (.int .i64 t785)) (fun _ h_ => h_.1))) (Kd.R_base ho0) hb); replace HO782 := Z (Kd.R_elder' (by (with_reducible repeat (first | apply Kd.R_alloc | apply Kd.R_drewN | apply Kd.R_drew)); exact (Kd.R_mono (Kd.R_far (p := ⟨gb786, 2, none⟩) (Kd.R_far (p := ⟨gb786, 1, none⟩) (Kd.R_far (p := ⟨gb786, 0, none⟩) (Kd.R_types HO782.out BK786.out (by decide)) (fun _ hk => hk.2) (.int .i64 t783)) (fun _ hk => hk.2) (.int .i64 t784)) (fun _ hk => hk.2) (.int .i64 t785)) (fun _ h_ => h_.1))) (Kd.R_base ho0) hb); replace BK786 := Z (blk_below (g := gb786) (o := .cells #[.int .i64 t783, .int .i64 t784, .int .i64 t785] 28 (0, 0)) (Z73 BK786) hb); replace HB := Z (below_step Z75 hb); (try clear hb); (try clear hb2); (try clear hk); (try clear hi); (try clear ho0)) | (go_at_call 10; (with_reducible refine (laws_padded.calls kj5 _ _ t776 t790 _ ?side1 ?side2 A16.out).mono ?_); (case side1 => exact (Z16 HO_3)); (case side2 => exact (Kd.R_reads' HO_3.out).2.1); rintro e w34 ⟨v791, rfl, ho0, hb⟩; have HO792 := Z (Kd.R_lower (Kd.R_new' (Kd.R_new' (Kd.R_new' ho0 (Kd.R_lt (Z11 HO_3))) (Kd.R_lt (Z11 HO782))) (Kd.R_lt (Z11 HO789))) (below_size Z75)); replace HO_3 := Z (Kd.R_elder' (Z11 HO_3) (Kd.R_base ho0) hb); replace HO782 := Z (Kd.R_elder' (Z11 HO782) (Kd.R_base ho0) hb); replace HO789 := Z (Kd.R_elder' (Z11 HO789) (Kd.R_base ho0) hb); replace BK786 := Z (Yk10 BK786 hb); replace HB := Z (below_step Z75 hb); (try clear hb); (try clear hb2); (try clear hk); (try clear hi); (try clear ho0); obtain ⟨Ao35, co35, eo35⟩ := Kd.R_slice HO789.out; subst eo35; obtain ⟨Ao36, co36, eo36⟩ := Kd.R_slice HO792.out; subst eo36) | (go_at_call 9; (with_reducible refine (laws_sameCells.calls kj5 _ _ t787 _ _ t790 false _ ?side1 ?side2 ?side3 ?side4 A17.out).mono ?_); (case side1 => exact (Z16 HO789)); (case side2 => exact (Kd.R_reads' HO789.out).2.1); (case side3 => exact (Z16 HO792)); (case side4 => exact (Kd.R_reads' HO792.out).2.1); rintro e w' ⟨rfl, ⟨nd, rfl⟩⟩))
    go_ret
    exact ⟨Z76, Z75⟩
   obtain ⟨c14b0, c14b1⟩ := Yn c14; obtain rfl := Option.some.inj H
   go_wp2_with (first | ((with_reducible refine gate_callee (f := 8) rfl ?_); refine goesL_ (some 30) rfl rfl Tryz.func8 Z0 rfl #[.string t779] rfl Z10 ?_; (with_reducible refine (impl_Import.calls kj5 t779 t780 t783 t784 t785 _ A13.out ⟨Atoi.tab_at HT0.out Z85⟩).mono ?_); rintro e w37 ⟨v781, rfl, ho0, hb⟩; refine ⟨_, rfl, ?_⟩; have HO782 := Z (Kd.R_lower (Kd.R_new' ho0 (Kd.R_lt (Z11 HO_3))) (below_size Z75)); replace HO_3 := Z (Kd.R_elder' (Z11 HO_3) (Kd.R_base ho0) hb); replace HB := Z (below_step Z75 hb); (try clear hb); (try clear hb2); (try clear hk); (try clear hi); (try clear ho0)) | ((with_reducible refine gate_dst (N := 6) rfl ?_); (try (refine gate_guard (by rfl) ?_; dsimp only)); refine box_event (by rfl) (N := 6) (by rfl) (cs := #[.int .i64 0, .int .i64 0, .int .i64 0]) (t := 28) Z7 ?_; intro gb786 hg w38 hbox hb; replace HO_3 := Z (Kd.R_below (Z11 HO_3) hb); replace HO782 := Z (Kd.R_below (Z11 HO782) hb); have BK786 := Z (hbox); have GW786 := Z ((Z99 : w.heap.size ≤ gb786)); have GE786 := Z ((Z99 : w.heap.size ≤ gb786)); replace HB := Z (below_step Z75 hb); clear hb hbox hg; have hcz39 := Yb3 BK786.out))
   go_ret
   exact ⟨Z76, Z75⟩

/-- THE ONE PURE STATEMENT of laws_FnNotes: yours. -/
def laws_FnNotes.Pure : Prop := ∀ (l0 : List Int), l0.length ≤ maxLen → l0.length * 1 ≤ 140737488351232 → (∀ x ∈ l0, (Lit.int .u8 x).wf = true) → ∃ k, laws_FnNotes.f k l0 = some true
theorem laws_FnNotes.walk (P : laws_FnNotes.Pure) (a0 : Option Addr) (len0 cap0 : Nat) (z0 : List Int) (w : World) (w0 : (a0 = none ∧ len0 = 0 ∧ cap0 = 0 ∧ z0 = []) ∨ ∃ x, a0 = some x ∧ len0 ≤ cap0 ∧ cap0 ≤ maxLen ∧ z0.length = cap0 ∧ (∀ i, i < z0.length → w.cell? (x.add i) = some (.int .u8 (z0.getD i 0))) ∧ ∀ n ∈ z0, (Lit.int .u8 n).wf = true) (y0 : len0 * 1 ≤ 140737488351232) (HT0 : Aside0 (Atoi.Tab w)) :
  Calls Tryz.prog 3 #[.slice a0 len0 cap0] w fun e w' => e = .returned (.bool true) ∧ Below w.heap.size w w' := by
 obtain ⟨l0, rfl, hr0, hm0, hw0, hc0⟩ := ReadsInt.ofRowC w0; obtain ⟨k, h⟩ := P l0 hm0 y0 hw0; refine (laws_FnNotes.calls k _ _ l0 true w (Kd.C_of_reads (d := (0 : Int)) (h1 := fun _ => rfl) hr0) hc0 h HT0).mono ?_
 rintro e w' ⟨rfl, hd⟩; exact ⟨rfl, hd⟩

end Go.Proofs.YtfjmpdcflnaogaaGreatDoor.QFnNotes
