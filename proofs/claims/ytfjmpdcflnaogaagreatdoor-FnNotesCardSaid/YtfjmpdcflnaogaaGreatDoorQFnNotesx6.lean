/-
Plain functions for the Go functions that a law reaches, each with a proof that the translation's call comes to just that; no conditions beyond those written in each.
-/
import Derived.Test.YtfjmpdcflnaogaaGreatDoorSFnNotes
import Derived.Test.YtfjmpdcflnaogaaGreatDoorQFnNotesx1
import Derived.Test.YtfjmpdcflnaogaaGreatDoorQFnNotesx4
import Derived.Test.YtfjmpdcflnaogaaGreatDoorQFnNotesx5
namespace Go.Proofs.YtfjmpdcflnaogaaGreatDoor.QFnNotes
open Go.RowKit Go.Proofs.YtfjmpdcflnaogaaGreatDoorW.PrintWords Go.Proofs.YtfjmpdcflnaogaaGreatDoorW.PrintLast Go.Proofs.YtfjmpdcflnaogaaGreatDoorW.PrintMore
attribute [local go_sem] max2_int min2_int max_two min_two max_three min_three max_four min_four   -- for this text's walks alone
set_option linter.unusedVariables false
set_option maxHeartbeats 8000000
set_option maxRecDepth 100000
set_option linter.unusedSimpArgs false

attribute [local go_sem high] eqA46
mutual
def impl_ParseCells.l0 : Nat → List Int → List (S46) → Option ((List (S46)))
 | 0, _, _ => none
 | k + 1, x0, x3 => if (x0.length : Int) > 0 then ((impl_parseOne.f k x0).bind fun bt509 => (if x3.length < 3518437208883 then ((impl_CellsOf.f k bt509.1 bt509.2.1 bt509.2.2.1 bt509.2.2.2.1 bt509.2.2.2.2).bind fun t518 => (if 0 ≤ (t518.length : Int) then (if (t518.length : Int) ≤ (x0.length : Int) then (impl_ParseCells.l0 k (x0.drop ((t518.length : Int) : Int).toNat) (x3 ++ [(⟨bt509.1, bt509.2.1, bt509.2.2.1, bt509.2.2.2.1, bt509.2.2.2.2⟩ : S46)])) else (none)) else (none))) else (none))) else (impl_ParseCells.l1 k x3 (wrap64 ((x3.length : Int) - 1)))
def impl_ParseCells.l1 : Nat → List (S46) → Int → Option ((List (S46)))
 | 0, _, _ => none
 | k + 1, x3, x5 => if x5 ≥ 0 then (if 0 ≤ x5 then (if x5 < (x3.length : Int) then (if (((rd_T46 x3 x5).f0) == 0 && ((((rd_T46 x3 x5).f1).toList) == ([] : List UInt8) && (((rd_T46 x3 x5).f2) == 0 && (!((rd_T46 x3 x5).f3) && (((rd_T46 x3 x5).f4) == 0))))) = true then (if x5 ≤ (x3.length : Int) then (impl_ParseCells.l1 k (x3.take (x5 : Int).toNat) (wrap64 (x5 - 1))) else (none)) else (some x3)) else (none)) else (none)) else (some x3)
end
def impl_ParseCells.f (k : Nat) (l0 : List Int) : Option ((List (S46))) := if (l0.length : Int) > 64 then (some ([] : List (S46))) else (impl_ParseCells.l0 k l0 (([] : List (S46))))
theorem impl_ParseCells.calls (k : Nat) (P0_ : Nat → Prop) (A0 : Option Addr) (c0 : Nat) (l0 : List Int) (r : List (S46)) (w : World) (hs0 : Kd.V (Kd.int .u32) 44 w w.heap.size (fun k_ => P0_ k_) (.slice A0 l0.length c0) l0) (h : impl_ParseCells.f k l0 = some r) :
  Calls Tryz.prog 19 #[.slice A0 l0.length c0] w fun e w' => ∃ v0_ : Value, e = .returned (v0_) ∧ Kd.R k46 46 w' w.heap.size (fun k_ => (w.heap.size ≤ k_)) v0_ r ∧ Below w.heap.size w w' := by
 have hu46 := Tryz.underlying46; have HO0 := Z (show Kd.V (Kd.int .u32) 44 w w.heap.size (fun k_ => (P0_ k_ ∨ w.heap.size ≤ k_)) (.slice A0 l0.length c0) l0 from Kd.V_mono hs0 (fun k_ hk => .inl hk)); have HB := Z (Below.refl w.heap.size w); unfold impl_ParseCells.f at h; have H := h; clear h; replace H := Yi H; rcases H with ⟨c2, H⟩ | ⟨c2, H⟩
 ·have c2b0 : decide (64 < (l0.length : Int)) = true := decide_eq_true c2; have c2b1 : decide (64 < l0.length) = true := decide_eq_true (by omega); clear c2; obtain rfl := Option.some.inj H; go_enter Tryz.func19, Tryz.ntmps19
  go_wp2
  go_ret
  exact ⟨_, Z76, Z23, Z75⟩
 have c2b0 : decide (64 < (l0.length : Int)) = false := decide_eq_false c2; have c2b1 : decide (64 < l0.length) = false := decide_eq_false (by omega); clear c2; obtain ⟨y506, hy506⟩ : ∃ y_ : List (S46), y_ = (([] : List (S46))) := ⟨_, rfl⟩; replace H : (impl_ParseCells.l0 k l0 y506) = some r := Yy hy506 H; have Ny506 := Aside0.mk hy506; clear hy506; have H' := Aside0.mk H; clear H; go_enter Tryz.func19, Tryz.ntmps19
 go_wp2_with (first | ((with_reducible refine gate_dst (N := 9) rfl ?_); refine Kd.R_lit k46 _ 46 (by rfl) (N := 9) (by rfl) (xs := ([] : List (S46))) (inner := []) (ok := fun _ => True) (okp := fun _ => True) Z7 (Reps.none _ _) (fun _ hk => hk) trivial (Below.refl _ _) (Nat.le_refl _) (by simp) ?_; intro v507 w3 ho4 hb hg_ hnew_; clear hg_ hnew_; (first | rw [← Ny506.out] at ho4 | (simp only [Int.reduceToNat] at ho4; rw [← Ny506.out] at ho4)); replace HO0 := Z (Kd.V_elder' (Z36 HO0) (Kd.R_base ho4) hb); have HO508 := Z (Kd.R_lower (Kd.R_newM (M := fun k_ => (w.heap.size ≤ k_)) ho4 (below_size Z75) (fun k_ h_ => h_)) (below_size Z75)); replace HB := Z (below_step Z75 hb); clear hb ho4))
 go_loopg [0, 3] k (fun kq v0 v3 w' => ∃ (x0_1 : List Int) (x3_1 : List (S46)), Aside0 (impl_ParseCells.l0 kq x0_1 x3_1 = some r) ∧ Aside0 (kq ≤ k) ∧ Aside0 (Kd.V (Kd.int .u32) 44 w' w.heap.size (fun k_ => (P0_ k_ ∨ w.heap.size ≤ k_) ∧ some k_ ≠ (v3 : Value).ownBlock) v0 x0_1) ∧ Aside0 (Kd.R k46 46 w' w.heap.size (fun k_ => (w.heap.size ≤ k_)) v3 x3_1) ∧ Aside0 (Below w.heap.size w w'))
 case atStart => exact ⟨(l0), (y506), H', ⟨Nat.le_refl _⟩, ⟨(Z36 HO0)⟩, ⟨(Z37 HO508)⟩, ⟨Z75⟩⟩
 case round =>
  clear H'; (try clear c1); (try clear c2); (try clear c2b0); (try clear c2b1); (try clear p2); obtain ⟨x0_1, x3_1, HA, HK1, HO_0, HO_3, HB⟩ := hrel
  cases gk with
  | zero => exact absurd HA.out (by simp [impl_ParseCells.l0])
  | succ k1 =>
   have H := HA.out; clear HA; simp only [impl_ParseCells.l0] at H; replace H := Yi H; rcases H with ⟨c5, H⟩ | ⟨c5, H⟩
   ·have c5b0 : decide (0 < (x0_1.length : Int)) = true := decide_eq_true c5; have c5b1 : decide (0 < x0_1.length) = true := decide_eq_true (by omega); clear c5; replace H := Yd H; obtain ⟨⟨t509, t510, t511, t512, t513⟩, A6, H⟩ := H; (try dsimp only at H); replace H := Yg H; obtain ⟨c7, H⟩ := H; have LMc7 := Aside0.mk c7; clear c7; obtain ⟨y515, hy515⟩ : ∃ y_ : List (S46), y_ = (x3_1 ++ [(⟨t509, t510, t511, t512, t513⟩ : S46)]) := ⟨_, rfl⟩; replace H : ((impl_CellsOf.f k1 t509 t510 t511 t512 t513).bind fun t518 => (if 0 ≤ (t518.length : Int) then (if (t518.length : Int) ≤ (x0_1.length : Int) then (impl_ParseCells.l0 k1 (x0_1.drop ((t518.length : Int) : Int).toNat) y515) else (none)) else (none))) = some r := Yy hy515 H; have Ny515 := Aside0.mk hy515; clear hy515; replace H := Yd H; obtain ⟨t518, A8, H⟩ := H; (try dsimp only at H); replace H := Yg H; obtain ⟨c9, H⟩ := H; have c9b0 := eq_true c9; have c9b1 := decide_eq_true c9; clear c9; replace H := Yg H; obtain ⟨c10, H⟩ := H; have c10b0 := eq_true c10; have c10b1 := decide_eq_true c10; clear c10; obtain ⟨y521, hy521⟩ : ∃ y_ : List Int, y_ = (x0_1.drop ((t518.length : Int) : Int).toNat) := ⟨_, rfl⟩; replace H : (impl_ParseCells.l0 k1 y521 y515) = some r := Yy hy521 H; have Ny521 := Aside0.mk hy521; clear hy521; have H' := Aside0.mk H; clear H; obtain ⟨Ao11, co11, eo11⟩ := Kd.V_slice HO_0.out; subst eo11
    go_wp2_with (first | ((with_reducible refine gate_callee (f := 42) rfl ?_); refine goesL_ (some 14) rfl rfl Tryz.func42 Z0 rfl #[.slice Ao11 x0_1.length co11] rfl Z10 ?_; (with_reducible refine (impl_parseOne.calls k1 _ _ x0_1 t509 t510 t511 t512 t513 _ ?side1 ?side2 A6.out).mono ?_); (case side1 => exact (by repeat (first | exact (Kd.V_reads' HO_0.out).2.2 | (with_reducible refine Kd.C_alloc ?_ _) | (with_reducible refine Kd.C_drewN ?_ _) | (with_reducible refine Kd.C_drew ?_)))); (case side2 => exact (Kd.V_reads' HO_0.out).2.1); rintro e w12 ⟨rfl, hb⟩; refine ⟨_, rfl, ?_⟩; replace HO_0 := Z (Kd.V_below (Z36 HO_0) hb); replace HO_3 := Z (Kd.R_below (Z11 HO_3) hb); replace HB := Z (below_step Z75 hb); (try clear hb); (try clear hb2); (try clear hk); (try clear hi)) | ((with_reducible refine gate_dst (N := 4) rfl ?_); refine box_event (by rfl) (N := 4) (by rfl) (cs := #[.int .i64 0, .string (⟨#[]⟩ : ByteArray), .int .i32 0, .bool false, .int .u32 0]) (t := 46) Z7 ?_; intro gb514 hg w13 hbox hb; replace HO_0 := Z (Kd.V_below (Kd.V_elderB (Z36 HO_0) gb514 (Nat.le_of_eq hg.symm)) hb); replace HO_3 := Z (Kd.R_below (Kd.R_elderB (Z11 HO_3) gb514 (Nat.le_of_eq hg.symm)) hb); have BK514 := Z (hbox); have GW514 := Z ((Z99 : w.heap.size ≤ gb514)); have GE514 := Z ((Z99 : w.heap.size ≤ gb514)); replace HB := Z (below_step Z75 hb); clear hb hbox hg; have hcz14 := Yb5 BK514.out) | ((with_reducible refine gate_builtin (b := .append) (xs := #[.tmp 15, .tmp 17]) rfl ?_); at_builtin; refine Kd.R_append k46 (w0 := w) w.heap.size rfl (.tmp 15) (.tmp 17) 42 46 (.agg #[(.int .i64 0), (.string ⟨#[]⟩), (.int .i32 0), (.bool false), (.int .u32 0)]) 40 rfl Tryz.underlying42 info46 rfl (by decide) (by omega) u3 x3_1 (⟨t509, t510, t511, t512, t513⟩ : S46) [.int .i64 t509, .string t510, .int .i32 t511, .bool t512, .int .u32 t513] (fun k_ => (w.heap.size ≤ k_) ∧ k_ ≠ gb514) (fun _ => False) rfl Z7 ?aP (fun _ hk => hk.elim) ?aF ?aO ?aB ?aS ?aL ?_; (case aP => exact k46_mkM _ _ _ (⟨t509, t510, t511, t512, t513⟩ : S46)); (case aB => exact Z75); (case aF => exact (fun k_ hk => ⟨(Nat.le_trans (below_size Z75) hk), Kd.freshB (g := gb514) (o := .cells #[.int .i64 t509, .string t510, .int .i32 t511, .bool t512, .int .u32 t513] 46 (0, 0)) (Z38 BK514) k_ hk⟩)); (case aO => exact (by (with_reducible repeat (first | apply Kd.R_alloc | apply Kd.R_drewN | apply Kd.R_drew)); exact Kd.R_mono (Kd.R_far (p := ⟨gb514, 4, none⟩) (Kd.R_far (p := ⟨gb514, 3, none⟩) (Kd.R_far (p := ⟨gb514, 2, none⟩) (Kd.R_far (p := ⟨gb514, 1, none⟩) (Kd.R_far (p := ⟨gb514, 0, none⟩) (Kd.R_mono HO_3.out (fun k_ hk => (⟨hk, hk.2⟩ : _ ∧ k_ ≠ gb514))) (fun _ hk => hk.2) (.int .i64 t509)) (fun _ hk => hk.2) (.string t510)) (fun _ hk => hk.2) (.int .i32 t511)) (fun _ hk => hk.2) (.bool t512)) (fun _ hk => hk.2) (.int .u32 t513)) (fun _ hk => ⟨hk.1.1, hk.1.2⟩))); (case aS => exact (below_size Z75)); (case aL => have := LMc7.out; omega); intro v516 w15 ho hb hg hat; rw [← Ny515.out] at ho; replace HO_0 := Z (Kd.V_afterv (ok := (fun k_ => (P0_ k_ ∨ w.heap.size ≤ k_) ∧ k_ ≠ gb514)) (by (with_reducible repeat (first | apply Kd.V_alloc | apply Kd.V_drewN | apply Kd.V_drew)); exact Kd.V_mono (Kd.V_far (p := ⟨gb514, 4, none⟩) (Kd.V_far (p := ⟨gb514, 3, none⟩) (Kd.V_far (p := ⟨gb514, 2, none⟩) (Kd.V_far (p := ⟨gb514, 1, none⟩) (Kd.V_far (p := ⟨gb514, 0, none⟩) (Kd.V_mono HO_0.out (fun k_ hk => (⟨hk, hk.2⟩ : _ ∧ k_ ≠ gb514))) (fun _ hk => hk.2) (.int .i64 t509)) (fun _ hk => hk.2) (.string t510)) (fun _ hk => hk.2) (.int .i32 t511)) (fun _ hk => hk.2) (.bool t512)) (fun _ hk => hk.2) (.int .u32 t513)) (fun _ hk => ⟨⟨hk.1.1.1, hk.1.2⟩, hk.1.1.2⟩)) hg hat); replace BK514 := Z (blk_grown (g := gb514) (o := .cells #[.int .i64 t509, .string t510, .int .i32 t511, .bool t512, .int .u32 t513] 46 (0, 0)) (Z38 BK514) hg (Kd.R_away HO_3.out (fun _ hk => hk.2))); replace HB := Z (hb); have HO517 := Z (ho); clear HO_3; clear ho hb hg hat; have hcz16 := Yb5 BK514.out) | ((with_reducible refine gate_callee (f := 27) rfl ?_); refine goesL_ (some 21) rfl rfl Tryz.func27 Z0 rfl #[.agg #[.int .i64 t509, .string t510, .int .i32 t511, .bool t512, .int .u32 t513]] rfl Z10 ?_; (with_reducible refine (impl_CellsOf.calls k1 t509 t510 t511 t512 t513 t518 _ A8.out).mono ?_); rintro e w17 ⟨v519, rfl, ho0, hb⟩; refine ⟨_, rfl, ?_⟩; replace HO_0 := Z (Kd.V_elder' (Z36 HO_0) (Kd.R_base ho0) hb); replace HO517 := Z (Kd.R_below (Z11 HO517) hb); have HO520 := Z (Kd.R_lower (Kd.R_newM (M := fun k_ => (w.heap.size ≤ k_)) ho0 (below_size Z75) (fun k_ h_ => h_)) (below_size Z75)); replace BK514 := Z (Yk BK514 hb); replace HB := Z (below_step Z75 hb); (try clear hb); (try clear hb2); (try clear hk); (try clear hi); (try clear ho0); obtain ⟨Ao18, co18, eo18⟩ := Kd.R_slice HO520.out; subst eo18; have q19 : ((t518.length : Int) : Int) ≤ ((x0_1.length : Int) : Int) := of_decide_eq_true Z5; obtain ⟨i019, hi019, _, hsz19, _⟩ := info_parts info44; have hroom19 : x0_1.length ≤ co11 := (Kd.V_reads' HO_0.out).2.1; have hC19 : Kd.F (Kd.int .u32) _ _ Ao11 x0_1.length x0_1 := (Kd.V_at (base := w.heap.size) HO_0.out).2.2; have q019 : (0 : Int) ≤ ((t518.length : Int) : Int) := of_decide_eq_true Z5; have hcut19 := cut_from (P := Tryz.prog) 24 44 .i64 Tryz.underlying24 hi019 1 hsz19 Ao11 x0_1.length co11 (t518.length : Int) q019 q19; have hr19 := Kd.F_cut (m := ((t518.length : Int) : Int).toNat) (c := co11) hC19 (by omega) hroom19; obtain ⟨A19, hA19⟩ : ∃ A1, A1 = (if co11 = ((t518.length : Int) : Int).toNat then Ao11 else (Ao11 : Option Addr).map (·.add (((t518.length : Int) : Int).toNat * 1))) := ⟨_, rfl⟩; obtain ⟨c19, hc19⟩ : ∃ c1, c1 = co11 - ((t518.length : Int) : Int).toNat := ⟨_, rfl⟩; have hy19 : y521.length = x0_1.length - ((t518.length : Int) : Int).toNat := (by rw [Ny521.out, List.length_drop] <;> omega); rw [show (x0_1).drop ((t518.length : Int) : Int).toNat = y521 from Ny521.out.symm] at hr19; replace hr19 : Kd.F (Kd.int .u32) _ _ A19 y521.length y521 := (by rw [hA19]; exact hr19); rw [← hy19, ← hA19, ← hc19] at hcut19; have HO525 := Z (show Kd.V (Kd.int .u32) 44 _ w.heap.size _ (.slice A19 y521.length c19) y521 from Kd.V_mk Z32 hr19); have HC525 := Z (show y521.length ≤ c19 from Z32); clear hr19 hC19 hroom19 hi019 hsz19 hc19; have KY19 := Aside0.mk hy19; have KA19 := Aside0.mk hA19; clear hy19 hA19; replace q19 := eq_true q19))
    go_roundg k1
    case measure => have := HK1.out; omega
    case rel => exact ⟨(y521), (y515), H', ⟨Z6⟩, ⟨by (with_reducible repeat (first | apply Kd.V_alloc | apply Kd.V_drewN | apply Kd.V_drew)); exact Kd.V_mono HO525.out (fun _ hk => ⟨hk.1.1.1, hk.1.2⟩)⟩, ⟨(Z37 HO517)⟩, ⟨Z75⟩⟩
   have c5b0 : decide (0 < (x0_1.length : Int)) = false := decide_eq_false c5; have c5b1 : decide (0 < x0_1.length) = false := decide_eq_false (by omega); clear c5; have H' := Aside0.mk H; clear H; obtain ⟨Ao20, co20, eo20⟩ := Kd.V_slice HO_0.out; subst eo20; obtain ⟨Ao21, co21, eo21⟩ := Kd.R_slice HO_3.out; subst eo21
   go_wp2
   go_loopg [3, 5] k1 (fun kq v3 v5 w' => ∃ (x3_2 : List (S46)) (x5_2 : Int), v5 = .int .i64 x5_2 ∧ Aside0 (impl_ParseCells.l1 kq x3_2 x5_2 = some r) ∧ Aside0 (kq ≤ k1) ∧ Aside0 (Kd.R k46 46 w' w.heap.size (fun k_ => (w.heap.size ≤ k_)) v3 x3_2) ∧ Aside0 (Below w.heap.size w w'))
   case atStart => exact ⟨(x3_1), (wrap64 ((x3_1.length : Int) - 1)), Z2, H', ⟨Nat.le_refl _⟩, ⟨(Z11 HO_3)⟩, ⟨Z75⟩⟩
   case round =>
    clear H'; (try clear c1); (try clear q1); (try clear c2); (try clear c2b0); (try clear c2b1); (try clear p2); (try clear c4); (try clear c5); (try clear c5b0); (try clear c5b1); (try clear p6); (try clear c7); (try clear c9); (try clear c9b0); (try clear c9b1); (try clear c10); (try clear c10b0); (try clear c10b1); (try clear c19); (try clear q19); (try clear hcz14); (try clear hcz16); (try clear p2); (try clear q019); (try clear q19); obtain ⟨x3_2, x5_2, rfl, HA, HK2, HO_3, HB⟩ := hrel
    cases gk with
    | zero => exact absurd HA.out (by simp [impl_ParseCells.l1])
    | succ k2 =>
     have H := HA.out; clear HA; simp only [impl_ParseCells.l1] at H; replace H := Yi H; rcases H with ⟨c22, H⟩ | ⟨c22, H⟩
     ·have c22b0 : decide (0 ≤ x5_2) = true := decide_eq_true c22; clear c22; replace H := Yg H; obtain ⟨c23, H⟩ := H; have c23b0 := decide_eq_true c23; clear c23; replace H := Yg H; obtain ⟨c24, H⟩ := H; have c24b0 := decide_eq_true c24; clear c24; replace H := Yi H; rcases H with ⟨c25, H⟩ | ⟨c25, H⟩
      ·have c25b0 : (((rd_T46 x3_2 x5_2).f0) == 0 && ((((rd_T46 x3_2 x5_2).f1).toList) == ([] : List UInt8) && (((rd_T46 x3_2 x5_2).f2) == 0 && (!((rd_T46 x3_2 x5_2).f3) && (((rd_T46 x3_2 x5_2).f4) == 0))))) = true := c25
       (try (have c25b1 : (((rd_T46 x3_2 x5_2).f0) == 0 && ((((rd_T46 x3_2 x5_2).f1).toList).isEmpty && (((rd_T46 x3_2 x5_2).f2) == 0 && (!((rd_T46 x3_2 x5_2).f3) && (((rd_T46 x3_2 x5_2).f4) == 0))))) = true := by have h_ : (((rd_T46 x3_2 x5_2).f0) == 0 && ((((rd_T46 x3_2 x5_2).f1).toList) == ([] : List UInt8) && (((rd_T46 x3_2 x5_2).f2) == 0 && (!((rd_T46 x3_2 x5_2).f3) && (((rd_T46 x3_2 x5_2).f4) == 0))))) = true := c25; simpa only [List.beq_nil_eq] using h_))
       (try (have c25b2 : decide (((rd_T46 x3_2 x5_2).f0) = 0 && ((((rd_T46 x3_2 x5_2).f1).toList) == ([] : List UInt8) && (((rd_T46 x3_2 x5_2).f2) == 0 && (!((rd_T46 x3_2 x5_2).f3) && (((rd_T46 x3_2 x5_2).f4) == 0))))) = true := Z39))
       (try (have c25b3 : (((rd_T46 x3_2 x5_2).f0) == 0 && ((((rd_T46 x3_2 x5_2).f1).toList) == ([] : List UInt8) && (((rd_T46 x3_2 x5_2).f2) == 0 && (!((rd_T46 x3_2 x5_2).f3) && (((rd_T46 x3_2 x5_2).f4) == 0))))) = true := Z39))
       clear c25; replace H := Yg H; obtain ⟨c26, H⟩ := H; have c26b0 := eq_true c26; have c26b1 := decide_eq_true c26; clear c26; obtain ⟨y527, hy527⟩ : ∃ y_ : List (S46), y_ = (x3_2.take (x5_2 : Int).toNat) := ⟨_, rfl⟩; replace H : (impl_ParseCells.l1 k2 y527 (wrap64 (x5_2 - 1))) = some r := Yy hy527 H; have Ny527 := Aside0.mk hy527; clear hy527; have H' := Aside0.mk H; clear H; obtain ⟨Ao27, co27, eo27⟩ := Kd.R_slice HO_3.out; subst eo27; have p526 : 0 ≤ (x5_2 : Int) := of_decide_eq_true Z5; have q526 : x5_2 < (x3_2.length : Int) := of_decide_eq_true Z5; obtain ⟨ad526, e526, hx526_0, hx526_1, hx526_2, hx526_3, hx526_4⟩ := at_T46 (Kd.R_reads' HO_3.out).2.2 x5_2 p526 q526
       cases e526
       replace p526 := eq_true p526; replace q526 := eq_true q526
       (try clear hcut27)
       have q28 : (x5_2 : Int) ≤ ((x3_2.length : Int) : Int) := of_decide_eq_true Z5; obtain ⟨i028, hi028, _, hsz28, _⟩ := info_parts info46; have hcut28 := cut_to (P := Tryz.prog) 42 46 .i64 Tryz.underlying42 hi028 (some ad526) x3_2.length co27 x5_2 (of_decide_eq_true Z5) q28 (Kd.R_reads' HO_3.out).2.1; have hl28 := (Kd.R_reads' HO_3.out).1; have hr28 := Kd.R_take (m := (x5_2 : Int).toNat) HO_3.out (by omega); have hy28 : y527.length = (x5_2 : Int).toNat := (by rw [Ny527.out, List.length_take]; omega); rw [← Ny527.out] at hr28; rw [← hy28] at hr28 hcut28; clear hl28 hy28 hi028 hsz28 HO_3; have HO529 := Aside0.mk hr28; clear hr28; replace q28 := eq_true q28
       go_wp2
       go_roundg k2
       case measure => have := HK1.out; have := HK2.out; omega
       case rel => exact ⟨(y527), (wrap64 (x5_2 - 1)), Z2, H', ⟨Z40⟩, ⟨(Z11 HO529)⟩, ⟨Z75⟩⟩
      have c25b0 : (((rd_T46 x3_2 x5_2).f0) == 0 && ((((rd_T46 x3_2 x5_2).f1).toList) == ([] : List UInt8) && (((rd_T46 x3_2 x5_2).f2) == 0 && (!((rd_T46 x3_2 x5_2).f3) && (((rd_T46 x3_2 x5_2).f4) == 0))))) = false := Z39
      (try (have c25b1 : (((rd_T46 x3_2 x5_2).f0) == 0 && ((((rd_T46 x3_2 x5_2).f1).toList).isEmpty && (((rd_T46 x3_2 x5_2).f2) == 0 && (!((rd_T46 x3_2 x5_2).f3) && (((rd_T46 x3_2 x5_2).f4) == 0))))) = false := by have h_ : (((rd_T46 x3_2 x5_2).f0) == 0 && ((((rd_T46 x3_2 x5_2).f1).toList) == ([] : List UInt8) && (((rd_T46 x3_2 x5_2).f2) == 0 && (!((rd_T46 x3_2 x5_2).f3) && (((rd_T46 x3_2 x5_2).f4) == 0))))) = false := Z39; simpa only [List.beq_nil_eq] using h_))
      (try (have c25b2 : decide (((rd_T46 x3_2 x5_2).f0) = 0 && ((((rd_T46 x3_2 x5_2).f1).toList) == ([] : List UInt8) && (((rd_T46 x3_2 x5_2).f2) == 0 && (!((rd_T46 x3_2 x5_2).f3) && (((rd_T46 x3_2 x5_2).f4) == 0))))) = false := Z39))
      (try (have c25b3 : (((rd_T46 x3_2 x5_2).f0) == 0 && ((((rd_T46 x3_2 x5_2).f1).toList) == ([] : List UInt8) && (((rd_T46 x3_2 x5_2).f2) == 0 && (!((rd_T46 x3_2 x5_2).f3) && (((rd_T46 x3_2 x5_2).f4) == 0))))) = false := Z39))
      (try (have c25b4 : ¬ (((rd_T46 x3_2 x5_2).f0) = 0 && ((((rd_T46 x3_2 x5_2).f1).toList) == ([] : List UInt8) && (((rd_T46 x3_2 x5_2).f2) == 0 && (!((rd_T46 x3_2 x5_2).f3) && (((rd_T46 x3_2 x5_2).f4) == 0))))) := Z39))
      clear c25; obtain rfl := Option.some.inj H; obtain ⟨Ao29, co29, eo29⟩ := Kd.R_slice HO_3.out; subst eo29; have p526 : 0 ≤ (x5_2 : Int) := of_decide_eq_true Z5; have q526 : x5_2 < (x3_2.length : Int) := of_decide_eq_true Z5; obtain ⟨ad526, e526, hx526_0, hx526_1, hx526_2, hx526_3, hx526_4⟩ := at_T46 (Kd.R_reads' HO_3.out).2.2 x5_2 p526 q526
      cases e526
      replace p526 := eq_true p526; replace q526 := eq_true q526
      go_wp2
      go_ret
      exact ⟨_, Z76, (Z11 HO_3), Z75⟩
     have c22b0 : decide (0 ≤ x5_2) = false := decide_eq_false c22; clear c22; obtain rfl := Option.some.inj H
     go_wp2
     go_ret
     exact ⟨_, Z76, (Z11 HO_3), Z75⟩

-- NOT PRINTED: function 20 (strings_Builder_WriteString)

def impl_ItemOk.f (k : Nat) (a0_0 : Int) (a0_1 : ByteArray) (a0_2 : Int) (a0_3 : Bool) (a0_4 : Int) : Option (Bool) := (impl_CellsOf.f k a0_0 a0_1 a0_2 a0_3 a0_4).bind fun t531 => (some (decide ((t531.length : Int) > 0)))
theorem impl_ItemOk.calls (k : Nat) (a0_0 : Int) (a0_1 : ByteArray) (a0_2 : Int) (a0_3 : Bool) (a0_4 : Int) (r : Bool) (w : World) (h : impl_ItemOk.f k a0_0 a0_1 a0_2 a0_3 a0_4 = some r) :
  Calls Tryz.prog 44 #[.agg #[.int .i64 a0_0, .string a0_1, .int .i32 a0_2, .bool a0_3, .int .u32 a0_4]] w fun e w' => e = .returned (.bool r) ∧ Below w.heap.size w w' := by
 have hu46 := Tryz.underlying46; have HB := Z (Below.refl w.heap.size w); unfold impl_ItemOk.f at h; have H := h; clear h; replace H := Yd H; obtain ⟨t531, A2, H⟩ := H; (try dsimp only at H); obtain rfl := Option.some.inj H; go_enter Tryz.func44, Tryz.ntmps44
 go_wp2_with (first | ((with_reducible refine gate_dst (N := 1) rfl ?_); refine box_event (by rfl) (N := 1) (by rfl) (cs := #[.int .i64 a0_0, .string a0_1, .int .i32 a0_2, .bool a0_3, .int .u32 a0_4]) (t := 46) Z7 ?_; intro gb530 hg w3 hbox hb; have BK530 := Z (hbox); have GW530 := Z ((Z99 : w.heap.size ≤ gb530)); have GE530 := Z ((Z99 : w.heap.size ≤ gb530)); replace HB := Z (below_step Z75 hb); clear hb hbox hg; have hcz4 := Yb5 BK530.out) | ((with_reducible refine gate_callee (f := 27) rfl ?_); refine goesL_ (some 4) rfl rfl Tryz.func27 Z0 rfl #[.agg #[.int .i64 a0_0, .string a0_1, .int .i32 a0_2, .bool a0_3, .int .u32 a0_4]] rfl Z10 ?_; (with_reducible refine (impl_CellsOf.calls k a0_0 a0_1 a0_2 a0_3 a0_4 t531 _ A2.out).mono ?_); rintro e w5 ⟨v532, rfl, ho0, hb⟩; refine ⟨_, rfl, ?_⟩; have HO533 := Z (Kd.R_lower ho0 (below_size Z75)); replace BK530 := Z (Yk BK530 hb); replace HB := Z (below_step Z75 hb); (try clear hb); (try clear hb2); (try clear hk); (try clear hi); (try clear ho0); obtain ⟨Ao6, co6, eo6⟩ := Kd.R_slice HO533.out; subst eo6))
 go_ret
 exact ⟨Z76, Z75⟩

def impl_HexText.f (a0 : Int) : Option (ByteArray) := if 0 ≤ a0 ∧ a0 < 4294967296 then some ⟨(Hex.hexL a0.toNat).toArray⟩ else none
theorem impl_HexText.calls (a0 : Int) (r : ByteArray) (w : World) (h : impl_HexText.f a0 = some r) (HT0 : Aside0 (Itoa.Tab w)) :
  Calls Tryz.prog 45 #[.int .u32 a0] w fun e w' => e = .returned (.string r) ∧ Below w.heap.size w w' := by
 unfold impl_HexText.f at h
 split at h
 case isFalse => cases h
 rename_i hb
 obtain rfl := Option.some.inj h; obtain ⟨u, rfl⟩ := Int.eq_ofNat_of_zero_le hb.1; exact Hex.hexText u (by omega) w HT0.out.2

def impl_DecText.f (a0 : Int) : Option (ByteArray) := if -9223372036854775808 ≤ a0 ∧ a0 ≤ 9223372036854775807 then some ⟨(Lib.itoa a0).toArray⟩ else none
set_option maxHeartbeats 1000000 in
set_option maxRecDepth 100000 in
theorem impl_DecText.calls (a0 : Int) (r : ByteArray) (w : World) (h : impl_DecText.f a0 = some r) (HT0 : Aside0 (Itoa.Tab w)) :
  Calls Tryz.prog 78 #[.int .i64 a0] w fun e w' => e = .returned (.string r) ∧ Below w.heap.size w w' := by
 unfold impl_DecText.f at h
 split at h
 case isFalse => cases h
 rename_i hb
 exact Itoa.decText a0 r (Option.some.inj h) hb.1 hb.2 w HT0.out

def impl_digits.f (a0 : Int) (a1 : Bool) : Option (ByteArray) := if a1 = true then ((impl_HexText.f ((a0) % 4294967296)).bind fun t534 => (if 1 + t534.size ≤ 9223372036854775807 then (some ((⟨#[36]⟩ : ByteArray) ++ t534)) else (none))) else ((impl_DecText.f (wrap64 (a0))).bind fun t535 => (if 1 + t535.size ≤ 9223372036854775807 then (some ((⟨#[35]⟩ : ByteArray) ++ t535)) else (none)))
theorem impl_digits.calls (a0 : Int) (a1 : Bool) (r : ByteArray) (w : World) (h : impl_digits.f a0 a1 = some r) (HT0 : Aside0 (Itoa.Tab w)) :
  Calls Tryz.prog 46 #[.int .i32 a0, .bool a1] w fun e w' => e = .returned (.string r) ∧ Below w.heap.size w w' := by
 have HB := Z (Below.refl w.heap.size w); unfold impl_digits.f at h; have H := h; clear h; by_cases c3 : a1 = true
 ·subst c3; replace H := Yt H; replace H := Yd H; obtain ⟨t534, A4, H⟩ := H; (try dsimp only at H); replace H := Yg H; obtain ⟨c5, H⟩ := H; have c5b0 := eq_true c5; have c5b1 := decide_eq_true c5
  try have c5b2 : (9223372036854775807 < 1 + t534.size) = False := eq_false (Nat.not_lt.2 c5)
  obtain rfl := Option.some.inj H; go_enter Tryz.func46, Tryz.ntmps46
  go_wp2_with (first | ((with_reducible refine gate_callee (f := 45) rfl ?_); refine goesL_ (some 8) rfl rfl Tryz.func45 Z0 rfl #[.int .u32 ((a0) % 4294967296)] rfl Z10 ?_; (with_reducible refine (impl_HexText.calls ((a0) % 4294967296) t534 _ A4.out ⟨Itoa.tab_at HT0.out Z85⟩).mono ?_); rintro e w6 ⟨rfl, hb⟩; refine ⟨_, rfl, ?_⟩; replace HB := Z (below_step Z75 hb); (try clear hb); (try clear hb2); (try clear hk); (try clear hi)))
  go_ret
  exact ⟨Z76, Z75⟩
 replace c3 := Bool.eq_false_iff.mpr c3; subst c3; replace H := Yf H; replace H := Yd H; obtain ⟨t535, A7, H⟩ := H; (try dsimp only at H); replace H := Yg H; obtain ⟨c8, H⟩ := H; have c8b0 := eq_true c8; have c8b1 := decide_eq_true c8
 try have c8b2 : (9223372036854775807 < 1 + t535.size) = False := eq_false (Nat.not_lt.2 c8)
 obtain rfl := Option.some.inj H; go_enter Tryz.func46, Tryz.ntmps46
 go_wp2_with (first | ((with_reducible refine gate_callee (f := 78) rfl ?_); refine goesL_ (some 12) rfl rfl Tryz.func78 Z0 rfl #[.int .i64 (wrap64 (a0))] rfl Z10 ?_; (with_reducible refine (impl_DecText.calls (wrap64 (a0)) t535 _ A7.out ⟨Itoa.tab_at HT0.out Z85⟩).mono ?_); rintro e w9 ⟨rfl, hb⟩; refine ⟨_, rfl, ?_⟩; replace HB := Z (below_step Z75 hb); (try clear hb); (try clear hb2); (try clear hk); (try clear hi)))
 go_ret
 exact ⟨Z76, Z75⟩

def impl_mark.f (a0 : Int) : Option (ByteArray) := if a0 = 1 then (some (⟨#[126]⟩ : ByteArray)) else (if a0 = 2 then (some (⟨#[58]⟩ : ByteArray)) else (if a0 = 3 then (some (⟨#[61]⟩ : ByteArray)) else (if a0 = 4 then (some (⟨#[34]⟩ : ByteArray)) else (if a0 = 5 then (some (⟨#[94]⟩ : ByteArray)) else (if a0 = 6 then (some (⟨#[95]⟩ : ByteArray)) else (some (⟨#[]⟩ : ByteArray)))))))
theorem impl_mark.calls (a0 : Int) (r : ByteArray) (w : World) (h : impl_mark.f a0 = some r) :
  Calls Tryz.prog 47 #[.int .i64 a0] w fun e w' => e = .returned (.string r) ∧ Drawn0 w w' := by
 unfold impl_mark.f at h; have H := h; clear h; replace H := Yi H; rcases H with ⟨c2, H⟩ | ⟨c2, H⟩
 ·obtain ⟨c2b0, c2b1⟩ := Ye c2; clear c2; obtain rfl := Option.some.inj H; go_enter Tryz.func47, Tryz.ntmps47
  go_wp2
  go_ret
  exact ⟨Z2, Z3⟩
 obtain ⟨c2b0, c2b1⟩ := Yn c2; replace H := Yi H; rcases H with ⟨c3, H⟩ | ⟨c3, H⟩
 ·obtain ⟨c3b0, c3b1⟩ := Ye c3; clear c3; obtain rfl := Option.some.inj H; go_enter Tryz.func47, Tryz.ntmps47
  go_wp2
  go_ret
  exact ⟨Z2, Z3⟩
 obtain ⟨c3b0, c3b1⟩ := Yn c3; replace H := Yi H; rcases H with ⟨c4, H⟩ | ⟨c4, H⟩
 ·obtain ⟨c4b0, c4b1⟩ := Ye c4; clear c4; obtain rfl := Option.some.inj H; go_enter Tryz.func47, Tryz.ntmps47
  go_wp2
  go_ret
  exact ⟨Z2, Z3⟩
 obtain ⟨c4b0, c4b1⟩ := Yn c4; replace H := Yi H; rcases H with ⟨c5, H⟩ | ⟨c5, H⟩
 ·obtain ⟨c5b0, c5b1⟩ := Ye c5; clear c5; obtain rfl := Option.some.inj H; go_enter Tryz.func47, Tryz.ntmps47
  go_wp2
  go_ret
  exact ⟨Z2, Z3⟩
 obtain ⟨c5b0, c5b1⟩ := Yn c5; replace H := Yi H; rcases H with ⟨c6, H⟩ | ⟨c6, H⟩
 ·obtain ⟨c6b0, c6b1⟩ := Ye c6; clear c6; obtain rfl := Option.some.inj H; go_enter Tryz.func47, Tryz.ntmps47
  go_wp2
  go_ret
  exact ⟨Z2, Z3⟩
 obtain ⟨c6b0, c6b1⟩ := Yn c6; replace H := Yi H; rcases H with ⟨c7, H⟩ | ⟨c7, H⟩
 ·obtain ⟨c7b0, c7b1⟩ := Ye c7; clear c7; obtain rfl := Option.some.inj H; go_enter Tryz.func47, Tryz.ntmps47
  go_wp2
  go_ret
  exact ⟨Z2, Z3⟩
 obtain ⟨c7b0, c7b1⟩ := Yn c7; obtain rfl := Option.some.inj H; go_enter Tryz.func47, Tryz.ntmps47
 go_wp2
 go_ret
 exact ⟨Z2, Z3⟩

def impl_ItemText.f (k : Nat) (a0_0 : Int) (a0_1 : ByteArray) (a0_2 : Int) (a0_3 : Bool) (a0_4 : Int) : Option (ByteArray) := (impl_ItemOk.f k a0_0 a0_1 a0_2 a0_3 a0_4).bind fun t537 => (if t537 = true then (if a0_0 = 0 then ((impl_HexText.f a0_4).bind fun t538 => (if 1 + t538.size ≤ 9223372036854775807 then (some ((⟨#[37]⟩ : ByteArray) ++ t538)) else (none))) else (if a0_0 = 7 then ((impl_digits.f a0_2 a0_3).bind fun t539 => (if 1 + t539.size ≤ 9223372036854775807 then (some ((⟨#[126]⟩ : ByteArray) ++ t539)) else (none))) else (if a0_0 = 8 then ((impl_digits.f a0_2 a0_3).bind fun t540 => (if 1 + t540.size ≤ 9223372036854775807 then (some ((⟨#[61]⟩ : ByteArray) ++ t540)) else (none))) else (if a0_0 = 9 then (if 1 + a0_1.size ≤ 9223372036854775807 then ((impl_digits.f a0_2 false).bind fun t541 => (if ((⟨#[38]⟩ : ByteArray) ++ a0_1).size + t541.size ≤ 9223372036854775807 then (some (((⟨#[38]⟩ : ByteArray) ++ a0_1) ++ t541)) else (none))) else (none)) else ((impl_mark.f a0_0).bind fun t542 => (if t542.size + a0_1.size ≤ 9223372036854775807 then (some (t542 ++ a0_1)) else (none))))))) else (some (⟨#[]⟩ : ByteArray)))
def impl_ItemText.T10 : Bool × List (List Nat × List Nat) := (true, [([], []), ([0], [0]), ([1], [1]), ([], []), ([3], [3]), ([4], [4]), ([2, 5], [2, 5]), ([6, 5, 0, 1, 2, 3, 4, 5, 6], [6])])
def impl_ItemText.B10 : List Nat := [0, 1, 3, 0, 8, 24, 63, 127]
theorem impl_ItemText.tab10 : rtab .any (opsOf Tryz.f21 10) = impl_ItemText.T10 := Z0
theorem impl_ItemText.bits10 : waitsOk impl_ItemText.T10.2 impl_ItemText.B10 = true := Z0
theorem impl_ItemText.calls (k : Nat) (a0_0 : Int) (a0_1 : ByteArray) (a0_2 : Int) (a0_3 : Bool) (a0_4 : Int) (r : ByteArray) (w : World) (h : impl_ItemText.f k a0_0 a0_1 a0_2 a0_3 a0_4 = some r) (HT0 : Aside0 (Itoa.Tab w)) :
  Calls Tryz.prog 21 #[.agg #[.int .i64 a0_0, .string a0_1, .int .i32 a0_2, .bool a0_3, .int .u32 a0_4]] w fun e w' => e = .returned (.string r) ∧ Below w.heap.size w w' := by
 have hu46 := Tryz.underlying46; have HB := Z (Below.refl w.heap.size w); unfold impl_ItemText.f at h; have H := h; clear h; replace H := Yd H; obtain ⟨t537, A2, H⟩ := H; (try dsimp only at H); by_cases c3 : t537 = true
 ·subst c3; replace H := Yt H; replace H := Yi H; rcases H with ⟨c4, H⟩ | ⟨c4, H⟩
  ·obtain ⟨c4b0, c4b1⟩ := Ye c4; clear c4; replace H := Yd H; obtain ⟨t538, A5, H⟩ := H; (try dsimp only at H); replace H := Yg H; obtain ⟨c6, H⟩ := H; have c6b0 := eq_true c6; have c6b1 := decide_eq_true c6
   try have c6b2 : (9223372036854775807 < 1 + t538.size) = False := eq_false (Nat.not_lt.2 c6)
   obtain rfl := Option.some.inj H; go_enter Tryz.func21, Tryz.ntmps21
   go_wp2_with (first | ((with_reducible refine gate_dst (N := 1) rfl ?_); refine box_event (by rfl) (N := 1) (by rfl) (cs := #[.int .i64 a0_0, .string a0_1, .int .i32 a0_2, .bool a0_3, .int .u32 a0_4]) (t := 46) Z7 ?_; intro gb536 hg w7 hbox hb; have BK536 := Z (hbox); have GW536 := Z ((Z99 : w.heap.size ≤ gb536)); have GE536 := Z ((Z99 : w.heap.size ≤ gb536)); replace HB := Z (below_step Z75 hb); clear hb hbox hg; have hcz8 := Yb5 BK536.out) | ((with_reducible refine gate_callee (f := 44) rfl ?_); refine goesL_ (some 5) rfl rfl Tryz.func44 Z0 rfl #[.agg #[.int .i64 a0_0, .string a0_1, .int .i32 a0_2, .bool a0_3, .int .u32 a0_4]] rfl Z10 ?_; (with_reducible refine (impl_ItemOk.calls k a0_0 a0_1 a0_2 a0_3 a0_4 true _ A2.out).mono ?_); rintro e w9 ⟨rfl, hb⟩; refine ⟨_, rfl, ?_⟩; replace BK536 := Z (Yk BK536 hb); replace HB := Z (below_step Z75 hb); (try clear hb); (try clear hb2); (try clear hk); (try clear hi); have hcz10 := Yb5 BK536.out) | ((with_reducible refine gate_callee (f := 45) rfl ?_); refine goesL_ (some 13) rfl rfl Tryz.func45 Z0 rfl #[.int .u32 a0_4] rfl Z10 ?_; (with_reducible refine (impl_HexText.calls a0_4 t538 _ A5.out ⟨Itoa.tab_at HT0.out Z85⟩).mono ?_); rintro e w11 ⟨rfl, hb⟩; refine ⟨_, rfl, ?_⟩; replace BK536 := Z (Yk BK536 hb); replace HB := Z (below_step Z75 hb); (try clear hb); (try clear hb2); (try clear hk); (try clear hi)))
   go_ret
   exact ⟨Z76, Z75⟩
  obtain ⟨c4b0, c4b1⟩ := Yn c4; replace H := Yi H; rcases H with ⟨c12, H⟩ | ⟨c12, H⟩
  ·obtain ⟨c12b0, c12b1⟩ := Ye c12; clear c12; replace H := Yd H; obtain ⟨t539, A13, H⟩ := H; (try dsimp only at H); replace H := Yg H; obtain ⟨c14, H⟩ := H; have c14b0 := eq_true c14; have c14b1 := decide_eq_true c14
   try have c14b2 : (9223372036854775807 < 1 + t539.size) = False := eq_false (Nat.not_lt.2 c14)
   obtain rfl := Option.some.inj H; go_enter Tryz.func21, Tryz.ntmps21
   go_wp2_with (first | ((with_reducible refine gate_dst (N := 1) rfl ?_); refine box_event (by rfl) (N := 1) (by rfl) (cs := #[.int .i64 a0_0, .string a0_1, .int .i32 a0_2, .bool a0_3, .int .u32 a0_4]) (t := 46) Z7 ?_; intro gb536 hg w15 hbox hb; have BK536 := Z (hbox); have GW536 := Z ((Z99 : w.heap.size ≤ gb536)); have GE536 := Z ((Z99 : w.heap.size ≤ gb536)); replace HB := Z (below_step Z75 hb); clear hb hbox hg; have hcz16 := Yb5 BK536.out) | ((with_reducible refine gate_callee (f := 44) rfl ?_); refine goesL_ (some 5) rfl rfl Tryz.func44 Z0 rfl #[.agg #[.int .i64 a0_0, .string a0_1, .int .i32 a0_2, .bool a0_3, .int .u32 a0_4]] rfl Z10 ?_; (with_reducible refine (impl_ItemOk.calls k a0_0 a0_1 a0_2 a0_3 a0_4 true _ A2.out).mono ?_); rintro e w17 ⟨rfl, hb⟩; refine ⟨_, rfl, ?_⟩; replace BK536 := Z (Yk BK536 hb); replace HB := Z (below_step Z75 hb); (try clear hb); (try clear hb2); (try clear hk); (try clear hi); have hcz18 := Yb5 BK536.out) | ((with_reducible refine gate_callee (f := 46) rfl ?_); refine goesL_ (some 23) rfl rfl Tryz.func46 Z0 rfl #[.int .i32 a0_2, .bool a0_3] rfl Z10 ?_; (with_reducible refine (impl_digits.calls a0_2 a0_3 t539 _ A13.out ⟨Itoa.tab_at HT0.out Z85⟩).mono ?_); rintro e w19 ⟨rfl, hb⟩; refine ⟨_, rfl, ?_⟩; replace BK536 := Z (Yk BK536 hb); replace HB := Z (below_step Z75 hb); (try clear hb); (try clear hb2); (try clear hk); (try clear hi)))
   go_ret
   exact ⟨Z76, Z75⟩
  obtain ⟨c12b0, c12b1⟩ := Yn c12; replace H := Yi H; rcases H with ⟨c20, H⟩ | ⟨c20, H⟩
  ·obtain ⟨c20b0, c20b1⟩ := Ye c20; clear c20; replace H := Yd H; obtain ⟨t540, A21, H⟩ := H; (try dsimp only at H); replace H := Yg H; obtain ⟨c22, H⟩ := H; have c22b0 := eq_true c22; have c22b1 := decide_eq_true c22
   try have c22b2 : (9223372036854775807 < 1 + t540.size) = False := eq_false (Nat.not_lt.2 c22)
   obtain rfl := Option.some.inj H; go_enter Tryz.func21, Tryz.ntmps21
   go_wp2_with (first | ((with_reducible refine gate_dst (N := 1) rfl ?_); refine box_event (by rfl) (N := 1) (by rfl) (cs := #[.int .i64 a0_0, .string a0_1, .int .i32 a0_2, .bool a0_3, .int .u32 a0_4]) (t := 46) Z7 ?_; intro gb536 hg w23 hbox hb; have BK536 := Z (hbox); have GW536 := Z ((Z99 : w.heap.size ≤ gb536)); have GE536 := Z ((Z99 : w.heap.size ≤ gb536)); replace HB := Z (below_step Z75 hb); clear hb hbox hg; have hcz24 := Yb5 BK536.out) | ((with_reducible refine gate_callee (f := 44) rfl ?_); refine goesL_ (some 5) rfl rfl Tryz.func44 Z0 rfl #[.agg #[.int .i64 a0_0, .string a0_1, .int .i32 a0_2, .bool a0_3, .int .u32 a0_4]] rfl Z10 ?_; (with_reducible refine (impl_ItemOk.calls k a0_0 a0_1 a0_2 a0_3 a0_4 true _ A2.out).mono ?_); rintro e w25 ⟨rfl, hb⟩; refine ⟨_, rfl, ?_⟩; replace BK536 := Z (Yk BK536 hb); replace HB := Z (below_step Z75 hb); (try clear hb); (try clear hb2); (try clear hk); (try clear hi); have hcz26 := Yb5 BK536.out) | ((with_reducible refine gate_callee (f := 46) rfl ?_); refine goesL_ (some 33) rfl rfl Tryz.func46 Z0 rfl #[.int .i32 a0_2, .bool a0_3] rfl Z10 ?_; (with_reducible refine (impl_digits.calls a0_2 a0_3 t540 _ A21.out ⟨Itoa.tab_at HT0.out Z85⟩).mono ?_); rintro e w27 ⟨rfl, hb⟩; refine ⟨_, rfl, ?_⟩; replace BK536 := Z (Yk BK536 hb); replace HB := Z (below_step Z75 hb); (try clear hb); (try clear hb2); (try clear hk); (try clear hi)))
   go_ret
   exact ⟨Z76, Z75⟩
  obtain ⟨c20b0, c20b1⟩ := Yn c20; replace H := Yi H; rcases H with ⟨c28, H⟩ | ⟨c28, H⟩
  ·obtain ⟨c28b0, c28b1⟩ := Ye c28; clear c28; replace H := Yg H; obtain ⟨c29, H⟩ := H; have c29b0 := eq_true c29; have c29b1 := decide_eq_true c29
   try have c29b2 : (9223372036854775807 < 1 + a0_1.size) = False := eq_false (Nat.not_lt.2 c29)
   replace H := Yd H; obtain ⟨t541, A30, H⟩ := H; (try dsimp only at H); replace H := Yg H; obtain ⟨c31, H⟩ := H; have c31b0 := eq_true c31; have c31b1 := decide_eq_true c31
   try have c31b2 : (9223372036854775807 < ((⟨#[38]⟩ : ByteArray) ++ a0_1).size + t541.size) = False := eq_false (Nat.not_lt.2 c31)
   try (have c31b3 := c31; simp only [ByteArray.size_append] at c31b3; replace c31b3 := eq_true c31b3)
   try (have c31b4 := c31b2; simp only [ByteArray.size_append] at c31b4; (try rw [show (⟨#[38]⟩ : ByteArray).size = 1 from rfl] at c31b4))
   obtain rfl := Option.some.inj H; go_enter Tryz.func21, Tryz.ntmps21
   try go_wp2_with (first | ((with_reducible refine gate_dst (N := 1) rfl ?_); refine box_event (by rfl) (N := 1) (by rfl) (cs := #[.int .i64 a0_0, .string a0_1, .int .i32 a0_2, .bool a0_3, .int .u32 a0_4]) (t := 46) Z7 ?_; intro gb536 hg w32 hbox hb; have BK536 := Z (hbox); have GW536 := Z ((Z99 : w.heap.size ≤ gb536)); have GE536 := Z ((Z99 : w.heap.size ≤ gb536)); replace HB := Z (below_step Z75 hb); clear hb hbox hg; have hcz33 := Yb5 BK536.out) | ((with_reducible refine gate_callee (f := 44) rfl ?_); refine goesL_ (some 5) rfl rfl Tryz.func44 Z0 rfl #[.agg #[.int .i64 a0_0, .string a0_1, .int .i32 a0_2, .bool a0_3, .int .u32 a0_4]] rfl Z10 ?_; (with_reducible refine (impl_ItemOk.calls k a0_0 a0_1 a0_2 a0_3 a0_4 true _ A2.out).mono ?_); rintro e w34 ⟨rfl, hb⟩; refine ⟨_, rfl, ?_⟩; replace BK536 := Z (Yk BK536 hb); replace HB := Z (below_step Z75 hb); (try clear hb); (try clear hb2); (try clear hk); (try clear hi); have hcz35 := Yb5 BK536.out))
   have n0_ := Z (blk_drew BK536.out); have n1_ := Z (below_drew1 HB.out); clear BK536; clear HB; have BK536 := n0_; have HB := n1_; clear n0_ n1_; refine start_ (n := 8) (S := fun w' => w'.cell? ⟨gb536, 0, none⟩ = some (.int .i64 a0_0) ∧ w'.cell? ⟨gb536, 1, none⟩ = some (.string a0_1) ∧ w'.cell? ⟨gb536, 2, none⟩ = some (.int .i32 a0_2) ∧ w'.cell? ⟨gb536, 3, none⟩ = some (.bool a0_3) ∧ w'.cell? ⟨gb536, 4, none⟩ = some (.int .u32 a0_4)) (ds := []) #[false, false, false, false, false, false, false, false] Z0 rfl rfl ⟨(blk_cell BK536.out 0).trans rfl, (blk_cell BK536.out 1).trans rfl, (blk_cell BK536.out 2).trans rfl, (blk_cell BK536.out 3).trans rfl, (blk_cell BK536.out 4).trans rfl⟩ (fun hHeld => ?_); refine with_tabW impl_ItemText.tab10 impl_ItemText.bits10 (fun HT_ HW_ => ?_)
   generalize w34.drew = w36 at BK536 HB hHeld ⊢; refine pure_ (i := 0) (N := some 39) (v := ?_) (a' := ?_) #[true, false, false, false, false, false, false, false] rfl rfl (any_of HT_.out Z0) (fun _ _ _ h => h) (Or.inl ⟨by rfl, ?_⟩) ?_ ?_
   rotate_left
   ·intro w'
    go_simp
    with_reducible rfl
   rotate_left
   ·simp only [Act.put, List.setIfInBounds_toArray, List.set_cons_zero, List.set_cons_succ, i64_w, i32_w]
    rfl
   refine pure_ (i := 3) (N := some 42) (v := ?_) (a' := ?_) #[true, false, false, true, false, false, false, false] rfl rfl (any_of HT_.out Z0) (fun _ _ _ h => h) (Or.inl ⟨by rfl, ?_⟩) ?_ ?_
   rotate_left
   ·intro w'
    go_simp
    with_reducible rfl
   rotate_left
   ·simp only [Act.put, List.setIfInBounds_toArray, List.set_cons_zero, List.set_cons_succ, i64_w, i32_w]
    rfl
   refine take_ (i := 1) (N := some 40) (v := ?_) (a' := ?_) #[true, true, false, true, false, false, false, false] rfl rfl (take_ofW HT_.out HW_.out Z0) (fun _ _ _ h => h) (Or.inl ⟨by rfl, ?_⟩) hHeld ?_ ?_
   rotate_left
   ·rintro w' ⟨s0, s1, s2, s3, s4⟩
    go_simp
    with_reducible rfl
   rotate_left
   ·simp only [Act.put, List.setIfInBounds_toArray, List.set_cons_zero, List.set_cons_succ, i64_w, i32_w]
    rfl
   refine pure_ (i := 2) (N := some 41) (v := ?_) (a' := ?_) #[true, true, true, true, false, false, false, false] rfl rfl (any_of HT_.out Z0) (fun _ _ _ h => h) (Or.inl ⟨by rfl, ?_⟩) ?_ ?_
   rotate_left
   ·intro w'
    go_simp
    with_reducible rfl
   rotate_left
   ·simp only [Act.put, List.setIfInBounds_toArray, List.set_cons_zero, List.set_cons_succ, i64_w, i32_w]
    rfl
   refine take_ (i := 4) (N := some 43) (v := ?_) (a' := ?_) #[true, true, true, true, true, false, false, false] rfl rfl (take_ofW HT_.out HW_.out Z0) (fun _ _ _ h => h) (Or.inl ⟨by rfl, ?_⟩) hHeld ?_ ?_
   rotate_left
   ·rintro w' ⟨s0, s1, s2, s3, s4⟩
    go_simp
    with_reducible rfl
   rotate_left
   ·simp only [Act.put, List.setIfInBounds_toArray, List.set_cons_zero, List.set_cons_succ, i64_w, i32_w]
    rfl
   refine one_ (i := 5) (N := some 44) #[true, true, true, true, true, true, false, false] rfl rfl (one_of HT_.out Z0) (by decide) (fun K hK => ?_)
   refine goes_ Tryz.func46 Z0 rfl #[.int .i32 a0_2, .bool false] (by rfl) rfl rfl Z10 ?_
   with_reducible refine (impl_digits.calls a0_2 false t541 _ A30.out ⟨Itoa.tab_at HT0.out Z85⟩).mono ?_
   rintro e w37 ⟨rfl, hb⟩; refine ⟨_, rfl, ?_⟩
   have n0_ := Z (Yk BK536 hb); have n1_ := Z (below_step Z75 hb); clear BK536; clear HB; have BK536 := n0_; have HB := n1_; clear n0_ n1_
   (try clear hb)
   (try clear hb2)
   (try clear hk)
   (try clear hi)
   refine hK.out _ _ ⟨(blk_cell BK536.out 0).trans rfl, (blk_cell BK536.out 1).trans rfl, (blk_cell BK536.out 2).trans rfl, (blk_cell BK536.out 3).trans rfl, (blk_cell BK536.out 4).trans rfl⟩ (fun hHeld => ?_)
   clear hK K; refine norm_ (a' := ?_) ?_ ?_
   rotate_left
   ·show Act.put _ (some 44) _ = _
    simp only [Act.put, List.setIfInBounds_toArray, List.set_cons_zero, List.set_cons_succ, i64_w, i32_w]
    rfl
   refine pure_ (i := 6) (N := some 45) (v := ?_) (a' := ?_) #[true, true, true, true, true, true, true, false] rfl rfl (any_of HT_.out Z0) (fun _ _ _ h => h) (Or.inl ⟨by rfl, ?_⟩) ?_ ?_
   rotate_left
   ·intro w'
    go_simp
    with_reducible rfl
   rotate_left
   ·simp only [Act.put, List.setIfInBounds_toArray, List.set_cons_zero, List.set_cons_succ, i64_w, i32_w]
    rfl
   refine pure_ (i := 7) (N := some 2) (v := ?_) (a' := ?_) #[true, true, true, true, true, true, true, true] rfl rfl (any_of HT_.out Z0) (fun _ _ _ h => h) (Or.inl ⟨by rfl, ?_⟩) ?_ ?_
   rotate_left
   ·intro w'
    go_simp
    with_reducible rfl
   rotate_left
   ·simp only [Act.put, List.setIfInBounds_toArray, List.set_cons_zero, List.set_cons_succ, i64_w, i32_w]
    rfl
   refine done_ (done_of HT_.out Z0) ?_
   try go_wp2
   go_ret
   exact ⟨Z76, Z75⟩
  obtain ⟨c28b0, c28b1⟩ := Yn c28; replace H := Yd H; obtain ⟨t542, A38, H⟩ := H; (try dsimp only at H); replace H := Yg H; obtain ⟨c39, H⟩ := H; have c39b0 := eq_true c39; have c39b1 := decide_eq_true c39
  try have c39b2 : (9223372036854775807 < t542.size + a0_1.size) = False := eq_false (Nat.not_lt.2 c39)
  obtain rfl := Option.some.inj H; go_enter Tryz.func21, Tryz.ntmps21
  try go_wp2_with (first | ((with_reducible refine gate_dst (N := 1) rfl ?_); refine box_event (by rfl) (N := 1) (by rfl) (cs := #[.int .i64 a0_0, .string a0_1, .int .i32 a0_2, .bool a0_3, .int .u32 a0_4]) (t := 46) Z7 ?_; intro gb536 hg w40 hbox hb; have BK536 := Z (hbox); have GW536 := Z ((Z99 : w.heap.size ≤ gb536)); have GE536 := Z ((Z99 : w.heap.size ≤ gb536)); replace HB := Z (below_step Z75 hb); clear hb hbox hg; have hcz41 := Yb5 BK536.out) | ((with_reducible refine gate_callee (f := 44) rfl ?_); refine goesL_ (some 5) rfl rfl Tryz.func44 Z0 rfl #[.agg #[.int .i64 a0_0, .string a0_1, .int .i32 a0_2, .bool a0_3, .int .u32 a0_4]] rfl Z10 ?_; (with_reducible refine (impl_ItemOk.calls k a0_0 a0_1 a0_2 a0_3 a0_4 true _ A2.out).mono ?_); rintro e w42 ⟨rfl, hb⟩; refine ⟨_, rfl, ?_⟩; replace BK536 := Z (Yk BK536 hb); replace HB := Z (below_step Z75 hb); (try clear hb); (try clear hb2); (try clear hk); (try clear hi); have hcz43 := Yb5 BK536.out))
  have n0_ := Z (blk_drew BK536.out); have n1_ := Z (below_drew1 HB.out); clear BK536; clear HB; have BK536 := n0_; have HB := n1_; clear n0_ n1_; refine start_ (n := 7) (S := fun w' => w'.cell? ⟨gb536, 0, none⟩ = some (.int .i64 a0_0) ∧ w'.cell? ⟨gb536, 1, none⟩ = some (.string a0_1) ∧ w'.cell? ⟨gb536, 2, none⟩ = some (.int .i32 a0_2) ∧ w'.cell? ⟨gb536, 3, none⟩ = some (.bool a0_3) ∧ w'.cell? ⟨gb536, 4, none⟩ = some (.int .u32 a0_4)) (ds := []) #[false, false, false, false, false, false, false] Z0 rfl rfl ⟨(blk_cell BK536.out 0).trans rfl, (blk_cell BK536.out 1).trans rfl, (blk_cell BK536.out 2).trans rfl, (blk_cell BK536.out 3).trans rfl, (blk_cell BK536.out 4).trans rfl⟩ (fun hHeld => ?_)
  generalize w42.drew = w44 at BK536 HB hHeld ⊢; refine pure_ (i := 0) (N := some 46) (v := ?_) (a' := ?_) #[true, false, false, false, false, false, false] rfl rfl Z0 (fun _ _ _ h => h) (Or.inl ⟨by rfl, ?_⟩) ?_ ?_
  rotate_left
  ·intro w'
   go_simp
   with_reducible rfl
  rotate_left
  ·simp only [Act.put, List.setIfInBounds_toArray, List.set_cons_zero, List.set_cons_succ, i64_w, i32_w]
   rfl
  refine pure_ (i := 3) (N := some 49) (v := ?_) (a' := ?_) #[true, false, false, true, false, false, false] rfl rfl Z0 (fun _ _ _ h => h) (Or.inl ⟨by rfl, ?_⟩) ?_ ?_
  rotate_left
  ·intro w'
   go_simp
   with_reducible rfl
  rotate_left
  ·simp only [Act.put, List.setIfInBounds_toArray, List.set_cons_zero, List.set_cons_succ, i64_w, i32_w]
   rfl
  refine take_ (i := 1) (N := some 47) (v := ?_) (a' := ?_) #[true, true, false, true, false, false, false] rfl rfl Z0 (fun _ _ _ h => h) (Or.inl ⟨by rfl, ?_⟩) hHeld ?_ ?_
  rotate_left
  ·rintro w' ⟨s0, s1, s2, s3, s4⟩
   go_simp
   with_reducible rfl
  rotate_left
  ·simp only [Act.put, List.setIfInBounds_toArray, List.set_cons_zero, List.set_cons_succ, i64_w, i32_w]
   rfl
  refine take_ (i := 4) (N := some 50) (v := ?_) (a' := ?_) #[true, true, false, true, true, false, false] rfl rfl Z0 (fun _ _ _ h => h) (Or.inl ⟨by rfl, ?_⟩) hHeld ?_ ?_
  rotate_left
  ·rintro w' ⟨s0, s1, s2, s3, s4⟩
   go_simp
   with_reducible rfl
  rotate_left
  ·simp only [Act.put, List.setIfInBounds_toArray, List.set_cons_zero, List.set_cons_succ, i64_w, i32_w]
   rfl
  refine one_ (i := 2) (N := some 48) #[true, true, true, true, true, false, false] rfl rfl Z0 (by decide) (fun K hK => ?_)
  refine goes_ Tryz.func47 Z0 rfl #[.int .i64 a0_0] (by rfl) rfl rfl Z10 ?_
  with_reducible refine (impl_mark.calls a0_0 t542 _ A38.out).mono ?_
  rintro e w' ⟨rfl, ⟨nd, rfl⟩⟩; refine ⟨_, rfl, ?_⟩
  refine hK.out _ _ ⟨(blk_cell BK536.out 0).trans rfl, (blk_cell BK536.out 1).trans rfl, (blk_cell BK536.out 2).trans rfl, (blk_cell BK536.out 3).trans rfl, (blk_cell BK536.out 4).trans rfl⟩ (fun hHeld => ?_)
  clear hK K; refine norm_ (a' := ?_) ?_ ?_
  rotate_left
  ·show Act.put _ (some 48) _ = _
   simp only [Act.put, List.setIfInBounds_toArray, List.set_cons_zero, List.set_cons_succ, i64_w, i32_w]
   rfl
  refine pure_ (i := 5) (N := some 51) (v := ?_) (a' := ?_) #[true, true, true, true, true, true, false] rfl rfl Z0 (fun _ _ _ h => h) (Or.inl ⟨by rfl, ?_⟩) ?_ ?_
  rotate_left
  ·intro w'
   go_simp
   with_reducible rfl
  rotate_left
  ·simp only [Act.put, List.setIfInBounds_toArray, List.set_cons_zero, List.set_cons_succ, i64_w, i32_w]
   rfl
  refine pure_ (i := 6) (N := some 2) (v := ?_) (a' := ?_) #[true, true, true, true, true, true, true] rfl rfl Z0 (fun _ _ _ h => h) (Or.inl ⟨by rfl, ?_⟩) ?_ ?_
  rotate_left
  ·intro w'
   go_simp
   with_reducible rfl
  rotate_left
  ·simp only [Act.put, List.setIfInBounds_toArray, List.set_cons_zero, List.set_cons_succ, i64_w, i32_w]
   rfl
  refine done_ Z0 ?_
  try go_wp2
  go_ret
  exact ⟨Z76, Z75⟩
 replace c3 := Bool.eq_false_iff.mpr c3; subst c3; replace H := Yf H; obtain rfl := Option.some.inj H; go_enter Tryz.func21, Tryz.ntmps21
 go_wp2_with (first | ((with_reducible refine gate_dst (N := 1) rfl ?_); refine box_event (by rfl) (N := 1) (by rfl) (cs := #[.int .i64 a0_0, .string a0_1, .int .i32 a0_2, .bool a0_3, .int .u32 a0_4]) (t := 46) Z7 ?_; intro gb536 hg w45 hbox hb; have BK536 := Z (hbox); have GW536 := Z ((Z99 : w.heap.size ≤ gb536)); have GE536 := Z ((Z99 : w.heap.size ≤ gb536)); replace HB := Z (below_step Z75 hb); clear hb hbox hg; have hcz46 := Yb5 BK536.out) | ((with_reducible refine gate_callee (f := 44) rfl ?_); refine goesL_ (some 5) rfl rfl Tryz.func44 Z0 rfl #[.agg #[.int .i64 a0_0, .string a0_1, .int .i32 a0_2, .bool a0_3, .int .u32 a0_4]] rfl Z10 ?_; (with_reducible refine (impl_ItemOk.calls k a0_0 a0_1 a0_2 a0_3 a0_4 false _ A2.out).mono ?_); rintro e w47 ⟨rfl, hb⟩; refine ⟨_, rfl, ?_⟩; replace BK536 := Z (Yk BK536 hb); replace HB := Z (below_step Z75 hb); (try clear hb); (try clear hb2); (try clear hk); (try clear hi)))
 go_ret
 exact ⟨Z76, Z75⟩

-- NOT PRINTED: function 22 (strings_Builder_Len)

-- NOT PRINTED: function 23 (strings_Builder_String)

def impl_Export.l (k : Nat) : List UInt8 → Bool → List (S46) → Option (List UInt8)
 | acc, _, [] => some acc
 | acc, fst, it :: its => (impl_ItemText.f k it.f0 it.f1 it.f2 it.f3 it.f4).bind fun t => if acc.length + 1 + t.size ≤ 140737488355327 then impl_Export.l k ((acc ++ (if fst = true then [] else if it.f0 = 2 then [10] else [32])) ++ t.data.toList) false its else none
def impl_Export.f (k : Nat) (l0 : List Int) : Option (ByteArray) := (impl_ParseCells.f k l0).bind fun its => (impl_Export.l k [] true its).bind fun fin => if fin.length + 1 ≤ 140737488355328 then some ⟨(if fin = [] then [] else fin ++ [10]).toArray⟩ else none
theorem impl_Export.view {w : World} {A : Option Addr} {c : Nat} {l : List Int} (h : Kd.C (Kd.int .u32) w A l.length l) (hc : l.length ≤ c) : Kd.V (Kd.int .u32) 44 w w.heap.size (fun k_ => (fun _ => True) k_) (.slice A l.length c) l :=
 ⟨A, c, rfl, hc, fun W' hW => by
  have hs : w.heap.size ≤ W'.heap.size := by
   rcases Nat.eq_zero_or_pos w.heap.size with h0 | h0
   ·omega
   ·have := heap_lt (hW (w.heap.size - 1) trivial (by omega)) (by omega); omega
  exact Kd.C_below (w1 := { w with heap := W'.heap }) h ⟨rfl, rfl, rfl, hs, fun k hk => hW k trivial hk⟩⟩
theorem impl_Export.calls (k : Nat) (A0 : Option Addr) (c0 : Nat) (l0 : List Int) (r : ByteArray) (w : World) (hr0 : Kd.C (Kd.int .u32) w A0 l0.length l0) (hc0 : l0.length ≤ c0) (h : impl_Export.f k l0 = some r) (HT0 : Aside0 (Itoa.Tab w)) :
  Calls Tryz.prog 7 #[.slice A0 l0.length c0] w fun e w' => e = .returned (.string r) ∧ Below w.heap.size w w' := by
 have hu_ := Tryz.underlying46; unfold impl_Export.f at h; obtain ⟨its, hp, h⟩ := Option.bind_eq_some_iff.mp h; obtain ⟨fin, hl, h⟩ := Option.bind_eq_some_iff.mp h
 have hbig : fin.length + 1 ≤ 140737488355328 := by
  split at h
  ·assumption
  ·cases h
 rw [if_pos hbig] at h; have HE := Z (Option.some.inj h); have HP := Aside0.mk hp; have HL0 := Aside0.mk hl; have HG := Aside0.mk hbig; have HR0 := Aside0.mk hr0; have HC0 := Aside0.mk hc0; clear h hp hl hbig hr0 hc0; have HB := Z (Below.refl w.heap.size w); have HI0 := Z (Bld.isB_new w); go_enter Tryz.func7, Tryz.ntmps7
 go_wp2_with (go_at_call 19; refine (impl_ParseCells.calls k (fun _ => True) A0 c0 l0 its _ (impl_Export.view (Kd.C_alloc HR0.out _) HC0.out) HP.out).mono ?_; rintro e w1 ⟨v0, rfl, hrow, hb1⟩; obtain ⟨Ao, co, rfl⟩ := Kd.R_slice hrow; have HROW := Aside0.mk hrow; have HB1 := Z (below_step (below_alloc HB.out _) hb1); have HI1 := Z (HI0.out.keep hb1); clear hrow hb1)
 go_loopg [9] its.length (fun kq v9 w' => ∃ (i : Nat) (x : Int) (acc : List UInt8), v9 = .int .i64 x ∧ Aside0 (x = (i : Int) ∧ i + kq = its.length) ∧ Aside0 (impl_Export.l k acc (decide (i = 0)) (its.drop i) = some fin) ∧ Aside0 (Bld.IsB w.heap.size acc w') ∧ Aside0 (∀ ad, Ao = some ad → w'.heap[ad.block]? = w1.heap[ad.block]?) ∧ Aside0 (Below w.heap.size w w'))
 case atStart => exact ⟨0, 0, [], rfl, ⟨rfl, by omega⟩, HL0, HI1, ⟨fun _ _ => rfl⟩, HB1⟩
 case round =>
  obtain ⟨i, x, acc, rfl, HX, HL, HI, HW, HBr⟩ := hrel; by_cases hi : i = its.length
  ·have hlt : decide (x < (its.length : Int)) = false := by rw [decide_eq_false_iff_not]; have := HX.out; omega
   have hacc : acc = fin := by
    have h := HL.out; rw [List.drop_of_length_le (by omega)] at h; exact Option.some.inj h
   subst hacc; by_cases h0 : acc = []
   ·subst h0; have hg0 : decide ((0 : Int) < ((([] : List UInt8).length : Nat) : Int)) = false := by decide
    go_wp2_with (first | (go_at_call 22; refine (Bld.len w.heap.size [] _ HI.out).mono ?_; rintro e w2 ⟨rfl, rfl⟩) | (go_at_call 23; refine (Bld.str w.heap.size [] _ HI.out).mono ?_; rintro e w2 ⟨rfl, hb2⟩; have HB2 := Z (HBr.out.trans hb2); clear hb2))
    go_ret
    exact ⟨by rw [← HE.out]; rfl, HB2.out⟩
   ·have hpos : 0 < acc.length := List.length_pos_iff.2 h0; have hg0 : decide ((0 : Int) < (acc.length : Int)) = true := decide_eq_true (by omega); have hg1 : decide (0 < acc.length) = true := decide_eq_true hpos; have HE2 := Z (show (⟨(acc ++ [10]).toArray⟩ : ByteArray) = r by rw [← HE.out, if_neg h0]); have HN := Z (show acc.length + (⟨#[10]⟩ : ByteArray).size ≤ 140737488355328 from HG.out); clear h0
    go_wp2_with (first | (go_at_call 22; refine (Bld.len w.heap.size acc _ HI.out).mono ?_; rintro e w2 ⟨rfl, rfl⟩) | (go_at_call 20; refine (Bld.write w.heap.size acc ⟨#[10]⟩ _ HI.out HN.out).mono ?_; rintro e w3 ⟨rfl, hi3, hb3, _⟩; have HI3 := Aside0.mk hi3; have HB3 := Z (HBr.out.trans hb3); clear hi3 hb3) | (go_at_call 23; refine (Bld.str w.heap.size (acc ++ [10]) _ HI3.out).mono ?_; rintro e w4 ⟨rfl, hb4⟩; have HB4 := Z (HB3.out.trans hb4); clear hb4))
    go_ret
    exact ⟨by rw [← HE2.out]; rfl, HB4.out⟩
  ·have hi' : i < its.length := by have := HX.out; omega
   cases gk with
   | zero => exact absurd HX.out (by omega)
   | succ k1 =>
    have hlt : decide (x < (its.length : Int)) = true := decide_eq_true Z41; have p1 : 0 ≤ x := Z41; have q1 : x < (its.length : Int) := Z41
    have hx1 : wrap64 (x + 1) = x + 1 := by
     have hm := Kd.C_max (Kd.R_reads' HROW.out).2.2; have := HX.out; unfold wrap64; omega
    obtain ⟨ad, rfl, y0, y1, y2, y3, y4⟩ := at_T46 (Kd.R_reads' HROW.out).2.2 x p1 q1
    have hrd : rd_T46 its x = its[i] := by
     unfold rd_T46; rw [show x.toNat = i by have := HX.out; omega, List.getD_eq_getElem?_getD, List.getElem?_eq_getElem hi']
     rfl
    rw [hrd] at y0 y1 y2 y3 y4
    obtain ⟨cur, hcur⟩ : ∃ cur, w1.heap[ad.block]? = some (.cells cur 46 (0, 0)) := by
     obtain ⟨inner, _, ho⟩ := Kd.R_own HROW.out; rcases ho with ⟨e_, _⟩ | ⟨g_, cap_, cur_, e_, _, hc_, _⟩
     ·cases e_
     ·injection e_ with e_ _ _
      injection e_ with e_
      subst e_; exact ⟨cur_, hc_⟩
    have HROWB := Aside0.mk hcur; have HWr := Z (HW.out ad rfl); have tr : ∀ (p : Addr) (v : Value), w1.cell? p = some v → p.block = ad.block → wr.cell? p = some v := fun p v hv hp => (World.cell?_of_block (a := p) (by rw [hp]; exact HWr.out)).trans hv
    have hab : (ad.add (x.toNat * 5)).block = ad.block := by first | (unfold Addr.add; split <;> rfl) | (unfold Addr.add; rfl) | simp [Addr.add]
    replace y0 := tr _ _ y0 hab; replace y1 := tr _ _ y1 hab; replace y2 := tr _ _ y2 hab; replace y3 := tr _ _ y3 hab; replace y4 := tr _ _ y4 hab
    have HNE : Aside0 (ad.block ≠ w.heap.size) := ⟨by
     obtain ⟨cs_, hc_⟩ := HI.out.blk; intro e_; have h1 := HWr.out.trans HROWB.out; rw [e_, hc_] at h1
     injection h1 with h1
     injection h1 with _ h1 _
     exact absurd h1 (by decide)⟩
    clear tr hcur hi hab
    obtain ⟨t, ht, hl2⟩ : ∃ t, impl_ItemText.f k its[i].f0 its[i].f1 its[i].f2 its[i].f3 its[i].f4 = some t ∧ (if acc.length + 1 + t.size ≤ 140737488355327 then impl_Export.l k ((acc ++ (if decide (i = 0) = true then [] else if its[i].f0 = 2 then [10] else [32])) ++ t.data.toList) false (its.drop (i + 1)) else none) = some fin := by
     have h := HL.out; rw [List.drop_eq_getElem_cons hi'] at h; exact Option.bind_eq_some_iff.mp h
    have hlen : acc.length + 1 + t.size ≤ 140737488355327 := by
     split at hl2
     ·assumption
     ·cases hl2
    rw [if_pos hlen] at hl2; have HLEN := Aside0.mk hlen; have HT := Aside0.mk ht; clear hlen ht HL; have p2 := eq_true p1; have q2 := eq_true q1
    go_upto_region 6 with (first | ((with_reducible refine gate_dst (N := 5) rfl ?_); (try (refine gate_guard (by rfl) ?_; dsimp only)); refine box_event (by rfl) (N := 5) (by rfl) (cs := #[.int .i64 0, .string (⟨#[]⟩ : ByteArray), .int .i32 0, .bool false, .int .u32 0]) (t := 46) Z7 ?_; intro gb hg w2 hbox hb; have HGB := Z (show wr.heap.size ≤ gb by omega); have HBW2 := Aside0.mk hb; have BK2 := Aside0.mk hbox; clear hb hbox hg; have hcz_0 : w2.cell? ⟨gb, 0, none⟩ = some (.int .i64 0) := (blk_cell BK2.out 0).trans rfl; have hfz_0 := blk_frozen BK2.out 0; have hcz_1 : w2.cell? ⟨gb, 1, none⟩ = some (.string (⟨#[]⟩ : ByteArray)) := (blk_cell BK2.out 1).trans rfl; have hfz_1 := blk_frozen BK2.out 1; have hcz_2 : w2.cell? ⟨gb, 2, none⟩ = some (.int .i32 0) := (blk_cell BK2.out 2).trans rfl; have hfz_2 := blk_frozen BK2.out 2; have hcz_3 : w2.cell? ⟨gb, 3, none⟩ = some (.bool false) := (blk_cell BK2.out 3).trans rfl; have hfz_3 := blk_frozen BK2.out 3; have hcz_4 : w2.cell? ⟨gb, 4, none⟩ = some (.int .u32 0) := (blk_cell BK2.out 4).trans rfl; have hfz_4 := blk_frozen BK2.out 4))
    generalize hq_ : (((((World.setCell w2 _ _).setCell _ _).setCell _ _).setCell _ _).setCell _ _) = w3; have BK3 : Aside0 (w3.heap[gb]? = some (.cells #[.int .i64 its[i].f0, .string its[i].f1, .int .i32 its[i].f2, .bool its[i].f3, .int .u32 its[i].f4] 46 (0, 0))) := ⟨by rw [← hq_]; refine blk_put (cs := #[.int .i64 its[i].f0, .string its[i].f1, .int .i32 its[i].f2, .bool its[i].f3, .int .u32 0]) ?_ 4 _ rfl; refine blk_put (cs := #[.int .i64 its[i].f0, .string its[i].f1, .int .i32 its[i].f2, .bool false, .int .u32 0]) ?_ 3 _ rfl; refine blk_put (cs := #[.int .i64 its[i].f0, .string its[i].f1, .int .i32 0, .bool false, .int .u32 0]) ?_ 2 _ rfl; refine blk_put (cs := #[.int .i64 its[i].f0, .string (⟨#[]⟩ : ByteArray), .int .i32 0, .bool false, .int .u32 0]) ?_ 1 _ rfl; refine blk_put (cs := #[.int .i64 0, .string (⟨#[]⟩ : ByteArray), .int .i32 0, .bool false, .int .u32 0]) ?_ 0 _ rfl; exact BK2.out⟩; have HBW3 : Below wr.heap.size wr w3 := by rw [← hq_]; exact below_set (below_set (below_set (below_set (below_set HBW2.out HGB.out) HGB.out) HGB.out) HGB.out) HGB.out
    have HB3 := Z (below_step HBr.out HBW3); have HI3 := Z (HI.out.keep HBW3); have HW3 := Z ((HBW3.block ad.block (blk_lt (HWr.out.trans HROWB.out))).trans HWr.out); have HGN : Aside0 (gb ≠ w.heap.size) := ⟨by have := HI.out.lt; have := HGB.out; omega⟩; clear HBW3 hq_ y0 y1 y2 y3 y4 hcz_0 hcz_1 hcz_2 hcz_3 hcz_4 hfz_0 hfz_1 hfz_2 hfz_3 hfz_4 BK2 HBW2 HI HW HBr HWr; have hc_0 : w3.cell? ⟨gb, 0, none⟩ = some (.int .i64 its[i].f0) := (blk_cell BK3.out 0).trans rfl; have hc_1 : w3.cell? ⟨gb, 1, none⟩ = some (.string its[i].f1) := (blk_cell BK3.out 1).trans rfl; have hc_2 : w3.cell? ⟨gb, 2, none⟩ = some (.int .i32 its[i].f2) := (blk_cell BK3.out 2).trans rfl; have hc_3 : w3.cell? ⟨gb, 3, none⟩ = some (.bool its[i].f3) := (blk_cell BK3.out 3).trans rfl; have hc_4 : w3.cell? ⟨gb, 4, none⟩ = some (.int .u32 its[i].f4) := (blk_cell BK3.out 4).trans rfl; by_cases hi0 : i = 0
    ·have hl3 : impl_Export.l k ((acc ++ []) ++ t.data.toList) (decide (i + 1 = 0)) (its.drop (i + 1)) = some fin := by
      rw [decide_eq_false (Nat.succ_ne_zero i)]; have h := hl2; rw [if_pos (decide_eq_true hi0)] at h; exact h
     have hx0 : (x == 0) = true := by rw [beq_iff_eq]; have := HX.out; omega
     have HN1 := Z (show acc.length + (⟨#[10]⟩ : ByteArray).size ≤ 140737488355328 by have := HLEN.out; have e_ : (⟨#[10]⟩ : ByteArray).size = 1 := rfl; omega); have HN2 := Z (show (acc ++ []).length + t.size ≤ 140737488355328 by have := HLEN.out; simp only [List.length_append, List.length_nil, List.length_singleton]; omega); have HIx := Z (show Bld.IsB w.heap.size (acc ++ []) w3 by rw [List.append_nil]; exact HI3.out); clear hi0
     go_wp2_with (first | ((with_reducible refine gate_callee (f := 21) rfl ?_); refine goesL_ (some 24) rfl rfl Tryz.func21 Z0 rfl #[.agg #[.int .i64 its[i].f0, .string its[i].f1, .int .i32 its[i].f2, .bool its[i].f3, .int .u32 its[i].f4]] rfl Z42 ?_; (with_reducible refine (impl_ItemText.calls k its[i].f0 its[i].f1 its[i].f2 its[i].f3 its[i].f4 t _ HT.out ⟨Itoa.tab_at HT0.out HB3.out⟩).mono ?_); rintro e w5 ⟨rfl, hb_⟩; refine ⟨_, rfl, ?_⟩; have HBt := Z (below_step HB3.out hb_); have HIt := Z (HIx.out.keep hb_); have HWt := Z ((hb_.block ad.block (blk_lt (HW3.out.trans HROWB.out))).trans HW3.out); clear hb_) | ((with_reducible refine gate_callee (f := 20) rfl ?_); refine goesL_ (some 25) rfl rfl Tryz.func20 Z0 rfl #[.pointer (some ⟨w.heap.size, 0, none⟩), .string t] rfl Z42 ?_; (with_reducible refine (Bld.write w.heap.size (acc ++ []) t _ HIt.out ?hl).mono ?_); (case hl => exact Z43); rintro e w6 ⟨rfl, hi_, hb_, hk_⟩; refine ⟨_, rfl, ?_⟩; have HI6 := Aside0.mk hi_; have HB6 := Z (HBt.out.trans hb_); have HW6 := Z ((hk_.blk (HWt.out.trans HROWB.out) HNE.out (by decide)).trans HROWB.out.symm); clear hi_ hb_ hk_))
     go_roundg k1
     case measure => omega
     case rel =>
      refine ⟨i + 1, x + 1, _, by first | rw [hx1] | rfl, ⟨Z41, Z41⟩, ⟨?_⟩, HI6, ⟨fun ad_ e_ => Z44⟩, HB6⟩
      exact hl3
    by_cases hk2 : its[i].f0 = 2
    ·have hl3 : impl_Export.l k ((acc ++ [10]) ++ t.data.toList) (decide (i + 1 = 0)) (its.drop (i + 1)) = some fin := by
      rw [decide_eq_false (Nat.succ_ne_zero i)]; have h := hl2; rw [if_neg (by simpa using hi0), if_pos hk2] at h; exact h
     have hx0 : (x == 0) = false := by rw [beq_eq_false_iff_ne]; have := HX.out; omega
     have hk0 : (its[i].f0 == 2) = true := beq_iff_eq.2 hk2; have HN1 := Z (show acc.length + (⟨#[10]⟩ : ByteArray).size ≤ 140737488355328 by have := HLEN.out; have e_ : (⟨#[10]⟩ : ByteArray).size = 1 := rfl; omega); have HN2 := Z (show (acc ++ [10]).length + t.size ≤ 140737488355328 by have := HLEN.out; simp only [List.length_append, List.length_nil, List.length_singleton]; omega); clear hi0 hk2
     go_wp2_with (first | ((with_reducible refine gate_callee (f := 20) rfl ?_); refine goesL_ (some 22) rfl rfl Tryz.func20 Z0 rfl #[.pointer (some ⟨w.heap.size, 0, none⟩), .string (⟨#[10]⟩ : ByteArray)] rfl Z42 ?_; (with_reducible refine (Bld.write w.heap.size acc (⟨#[10]⟩ : ByteArray) _ HI3.out ?hl).mono ?_); (case hl => exact Z43); rintro e w4 ⟨rfl, hi_, hb_, hk_⟩; refine ⟨_, rfl, ?_⟩; have HI4 := Aside0.mk hi_; have HB4 := Z (HB3.out.trans hb_); have HW4 := Z ((hk_.blk (HW3.out.trans HROWB.out) HNE.out (by decide)).trans HROWB.out.symm); have BK4 := Z (hk_.blk BK3.out HGN.out (by decide)); clear hi_ hb_ hk_; have hd_0 : w4.cell? ⟨gb, 0, none⟩ = some (.int .i64 its[i].f0) := (blk_cell BK4.out 0).trans rfl; have hd_1 : w4.cell? ⟨gb, 1, none⟩ = some (.string its[i].f1) := (blk_cell BK4.out 1).trans rfl; have hd_2 : w4.cell? ⟨gb, 2, none⟩ = some (.int .i32 its[i].f2) := (blk_cell BK4.out 2).trans rfl; have hd_3 : w4.cell? ⟨gb, 3, none⟩ = some (.bool its[i].f3) := (blk_cell BK4.out 3).trans rfl; have hd_4 : w4.cell? ⟨gb, 4, none⟩ = some (.int .u32 its[i].f4) := (blk_cell BK4.out 4).trans rfl) | ((with_reducible refine gate_callee (f := 21) rfl ?_); refine goesL_ (some 24) rfl rfl Tryz.func21 Z0 rfl #[.agg #[.int .i64 its[i].f0, .string its[i].f1, .int .i32 its[i].f2, .bool its[i].f3, .int .u32 its[i].f4]] rfl Z42 ?_; (with_reducible refine (impl_ItemText.calls k its[i].f0 its[i].f1 its[i].f2 its[i].f3 its[i].f4 t _ HT.out ⟨Itoa.tab_at HT0.out HB4.out⟩).mono ?_); rintro e w5 ⟨rfl, hb_⟩; refine ⟨_, rfl, ?_⟩; have HBt := Z (below_step HB4.out hb_); have HIt := Z (HI4.out.keep hb_); have HWt := Z ((hb_.block ad.block (blk_lt (HW4.out.trans HROWB.out))).trans HW4.out); clear hb_) | ((with_reducible refine gate_callee (f := 20) rfl ?_); refine goesL_ (some 25) rfl rfl Tryz.func20 Z0 rfl #[.pointer (some ⟨w.heap.size, 0, none⟩), .string t] rfl Z42 ?_; (with_reducible refine (Bld.write w.heap.size (acc ++ [10]) t _ HIt.out ?hl).mono ?_); (case hl => exact Z43); rintro e w6 ⟨rfl, hi_, hb_, hk_⟩; refine ⟨_, rfl, ?_⟩; have HI6 := Aside0.mk hi_; have HB6 := Z (HBt.out.trans hb_); have HW6 := Z ((hk_.blk (HWt.out.trans HROWB.out) HNE.out (by decide)).trans HROWB.out.symm); clear hi_ hb_ hk_))
     go_roundg k1
     case measure => omega
     case rel =>
      refine ⟨i + 1, x + 1, _, by first | rw [hx1] | rfl, ⟨Z41, Z41⟩, ⟨?_⟩, HI6, ⟨fun ad_ e_ => Z44⟩, HB6⟩
      exact hl3
    ·have hl3 : impl_Export.l k ((acc ++ [32]) ++ t.data.toList) (decide (i + 1 = 0)) (its.drop (i + 1)) = some fin := by
      rw [decide_eq_false (Nat.succ_ne_zero i)]; have h := hl2; rw [if_neg (by simpa using hi0), if_neg hk2] at h; exact h
     have hx0 : (x == 0) = false := by rw [beq_eq_false_iff_ne]; have := HX.out; omega
     have hk0 : (its[i].f0 == 2) = false := beq_eq_false_iff_ne.2 hk2; have HN1 := Z (show acc.length + (⟨#[32]⟩ : ByteArray).size ≤ 140737488355328 by have := HLEN.out; have e_ : (⟨#[32]⟩ : ByteArray).size = 1 := rfl; omega); have HN2 := Z (show (acc ++ [32]).length + t.size ≤ 140737488355328 by have := HLEN.out; simp only [List.length_append, List.length_nil, List.length_singleton]; omega); clear hi0 hk2
     go_wp2_with (first | ((with_reducible refine gate_callee (f := 20) rfl ?_); refine goesL_ (some 14) rfl rfl Tryz.func20 Z0 rfl #[.pointer (some ⟨w.heap.size, 0, none⟩), .string (⟨#[32]⟩ : ByteArray)] rfl Z42 ?_; (with_reducible refine (Bld.write w.heap.size acc (⟨#[32]⟩ : ByteArray) _ HI3.out ?hl).mono ?_); (case hl => exact Z43); rintro e w4 ⟨rfl, hi_, hb_, hk_⟩; refine ⟨_, rfl, ?_⟩; have HI4 := Aside0.mk hi_; have HB4 := Z (HB3.out.trans hb_); have HW4 := Z ((hk_.blk (HW3.out.trans HROWB.out) HNE.out (by decide)).trans HROWB.out.symm); have BK4 := Z (hk_.blk BK3.out HGN.out (by decide)); clear hi_ hb_ hk_; have hd_0 : w4.cell? ⟨gb, 0, none⟩ = some (.int .i64 its[i].f0) := (blk_cell BK4.out 0).trans rfl; have hd_1 : w4.cell? ⟨gb, 1, none⟩ = some (.string its[i].f1) := (blk_cell BK4.out 1).trans rfl; have hd_2 : w4.cell? ⟨gb, 2, none⟩ = some (.int .i32 its[i].f2) := (blk_cell BK4.out 2).trans rfl; have hd_3 : w4.cell? ⟨gb, 3, none⟩ = some (.bool its[i].f3) := (blk_cell BK4.out 3).trans rfl; have hd_4 : w4.cell? ⟨gb, 4, none⟩ = some (.int .u32 its[i].f4) := (blk_cell BK4.out 4).trans rfl) | ((with_reducible refine gate_callee (f := 21) rfl ?_); refine goesL_ (some 24) rfl rfl Tryz.func21 Z0 rfl #[.agg #[.int .i64 its[i].f0, .string its[i].f1, .int .i32 its[i].f2, .bool its[i].f3, .int .u32 its[i].f4]] rfl Z42 ?_; (with_reducible refine (impl_ItemText.calls k its[i].f0 its[i].f1 its[i].f2 its[i].f3 its[i].f4 t _ HT.out ⟨Itoa.tab_at HT0.out HB4.out⟩).mono ?_); rintro e w5 ⟨rfl, hb_⟩; refine ⟨_, rfl, ?_⟩; have HBt := Z (below_step HB4.out hb_); have HIt := Z (HI4.out.keep hb_); have HWt := Z ((hb_.block ad.block (blk_lt (HW4.out.trans HROWB.out))).trans HW4.out); clear hb_) | ((with_reducible refine gate_callee (f := 20) rfl ?_); refine goesL_ (some 25) rfl rfl Tryz.func20 Z0 rfl #[.pointer (some ⟨w.heap.size, 0, none⟩), .string t] rfl Z42 ?_; (with_reducible refine (Bld.write w.heap.size (acc ++ [32]) t _ HIt.out ?hl).mono ?_); (case hl => exact Z43); rintro e w6 ⟨rfl, hi_, hb_, hk_⟩; refine ⟨_, rfl, ?_⟩; have HI6 := Aside0.mk hi_; have HB6 := Z (HBt.out.trans hb_); have HW6 := Z ((hk_.blk (HWt.out.trans HROWB.out) HNE.out (by decide)).trans HROWB.out.symm); clear hi_ hb_ hk_))
     go_roundg k1
     case measure => omega
     case rel =>
      refine ⟨i + 1, x + 1, _, by first | rw [hx1] | rfl, ⟨Z41, Z41⟩, ⟨?_⟩, HI6, ⟨fun ad_ e_ => Z44⟩, HB6⟩
      exact hl3

def impl_isSpace.f (a0 : Int) : Option (Bool) := if a0 = 32 then (some true) else (if a0 = 10 then (some true) else (some (a0 == 9)))
theorem impl_isSpace.calls (a0 : Int) (r : Bool) (w : World) (h : impl_isSpace.f a0 = some r) :
  Calls Tryz.prog 48 #[.int .u8 a0] w fun e w' => e = .returned (.bool r) ∧ Drawn0 w w' := by
 unfold impl_isSpace.f at h; have H := h; clear h; replace H := Yi H; rcases H with ⟨c2, H⟩ | ⟨c2, H⟩
 ·obtain ⟨c2b0, c2b1⟩ := Ye c2; clear c2; obtain rfl := Option.some.inj H; go_enter Tryz.func48, Tryz.ntmps48
  go_wp2
  go_ret
  exact ⟨Z2, Z3⟩
 obtain ⟨c2b0, c2b1⟩ := Yn c2; replace H := Yi H; rcases H with ⟨c3, H⟩ | ⟨c3, H⟩
 ·obtain ⟨c3b0, c3b1⟩ := Ye c3; clear c3; obtain rfl := Option.some.inj H; go_enter Tryz.func48, Tryz.ntmps48
  go_wp2
  go_ret
  exact ⟨Z2, Z3⟩
 obtain ⟨c3b0, c3b1⟩ := Yn c3; obtain rfl := Option.some.inj H; go_enter Tryz.func48, Tryz.ntmps48
 go_wp2
 go_ret
 exact ⟨Z2, Z3⟩

mutual
def impl_spots.l0 : Nat → ByteArray → List (S57) → Int → Option ((List (S57)))
 | 0, _, _, _ => none
 | k + 1, x0, x3, x4 => if x4 < (x0.size : Int) then (if 0 ≤ x4 then ((impl_isSpace.f (bt x0 x4)).bind fun t546 => (if t546 = true then (impl_spots.l0 k x0 x3 (wrap64 (x4 + 1))) else (impl_spots.l1 k x0 x3 x4 x4))) else (none)) else (some x3)
def impl_spots.l1 : Nat → ByteArray → List (S57) → Int → Int → Option ((List (S57)))
 | 0, _, _, _, _ => none
 | k + 1, x0, x3, x4, x5 => if x4 < (x0.size : Int) then (if 0 ≤ x4 then ((impl_isSpace.f (bt x0 x4)).bind fun t547 => (if t547 = true then (if 0 ≤ x5 then (if x5 ≤ x4 then (if x4 ≤ (x0.size : Int) then (if x3.length < 5864062014805 then (impl_spots.l0 k x0 (x3 ++ [(⟨x0.extract (x5 : Int).toNat (x4 : Int).toNat, x5⟩ : S57)]) x4) else (none)) else (none)) else (none)) else (none)) else (impl_spots.l1 k x0 x3 (wrap64 (x4 + 1)) x5))) else (none)) else (if 0 ≤ x5 then (if x5 ≤ x4 then (if x4 ≤ (x0.size : Int) then (if x3.length < 5864062014805 then (impl_spots.l0 k x0 (x3 ++ [(⟨x0.extract (x5 : Int).toNat (x4 : Int).toNat, x5⟩ : S57)]) x4) else (none)) else (none)) else (none)) else (none))
end
def impl_spots.f (k : Nat) (a0 : ByteArray) : Option ((List (S57))) := impl_spots.l0 k a0 (([] : List (S57))) 0
theorem impl_spots.calls (k : Nat) (a0 : ByteArray) (r : List (S57)) (w : World) (h : impl_spots.f k a0 = some r) :
  Calls Tryz.prog 24 #[.string a0] w fun e w' => ∃ v0_ : Value, e = .returned (v0_) ∧ Kd.R k57 57 w' w.heap.size (fun _ => True) v0_ r ∧ Below w.heap.size w w' := by
 have hu57 := Tryz.underlying57; have HB := Z (Below.refl w.heap.size w); unfold impl_spots.f at h; have H := h; clear h; obtain ⟨y543, hy543⟩ : ∃ y_ : List (S57), y_ = (([] : List (S57))) := ⟨_, rfl⟩; replace H : (impl_spots.l0 k a0 y543 0) = some r := Yy hy543 H; have Ny543 := Aside0.mk hy543; clear hy543; have H' := Aside0.mk H; clear H; go_enter Tryz.func24, Tryz.ntmps24
 go_wp2_with (first | ((with_reducible refine gate_dst (N := 6) rfl ?_); refine Kd.R_lit k57 _ 57 (by rfl) (N := 6) (by rfl) (xs := ([] : List (S57))) (inner := []) (ok := fun _ => True) (okp := fun _ => True) Z7 (Reps.none _ _) (fun _ hk => hk) trivial (Below.refl _ _) (Nat.le_refl _) (by simp) ?_; intro v544 w2 ho3 hb hg_ hnew_; clear hg_ hnew_; (first | rw [← Ny543.out] at ho3 | (simp only [Int.reduceToNat] at ho3; rw [← Ny543.out] at ho3)); have HO545 := Z (Kd.R_lower ho3 (below_size Z75)); replace HB := Z (below_step Z75 hb); clear hb ho3))
 go_loopg [3, 4] k (fun kq v3 v4 w' => ∃ (x3_1 : List (S57)) (x4_1 : Int), v4 = .int .i64 x4_1 ∧ Aside0 (impl_spots.l0 kq a0 x3_1 x4_1 = some r) ∧ Aside0 (kq ≤ k) ∧ Aside0 (Kd.R k57 57 w' w.heap.size (fun _ => True) v3 x3_1) ∧ Aside0 (Below w.heap.size w w'))
 case atStart => exact ⟨(y543), (0), Z2, H', ⟨Nat.le_refl _⟩, ⟨(Z11 HO545)⟩, ⟨Z75⟩⟩
 case round =>
  clear H'; (try clear c2); (try clear p2); obtain ⟨x3_1, x4_1, rfl, HA, HK1, HO_3, HB⟩ := hrel
  cases gk with
  | zero => exact absurd HA.out (by simp [impl_spots.l0])
  | succ k1 =>
   have H := HA.out; clear HA; simp only [impl_spots.l0] at H; replace H := Yi H; rcases H with ⟨c4, H⟩ | ⟨c4, H⟩
   ·have c4b0 := decide_eq_true c4; clear c4; replace H := Yg H; obtain ⟨c5, H⟩ := H; have c5b0 := decide_eq_true c5; clear c5; replace H := Yd H; obtain ⟨t546, A7, H⟩ := H; (try dsimp only at H); by_cases c8 : t546 = true
    ·subst c8; replace H := Yt H; have H' := Aside0.mk H; clear H; have p6 : 0 ≤ (x4_1 : Int) := of_decide_eq_true Z5; have q6 : x4_1 < (a0.size : Int) := of_decide_eq_true Z5; have hx6 := bt_at a0 x4_1; replace p6 := eq_true p6; replace q6 := eq_true q6
     go_wp2_with (first | ((with_reducible refine gate_callee (f := 48) rfl ?_); refine goesL_ (some 14) rfl rfl Tryz.func48 Z0 rfl #[.int .u8 (bt a0 x4_1)] rfl Z10 ?_; (with_reducible refine (impl_isSpace.calls (bt a0 x4_1) true _ A7.out).mono ?_); rintro e w' ⟨rfl, ⟨nd, rfl⟩⟩; refine ⟨_, rfl, ?_⟩))
     go_roundg k1
     case measure => have := HK1.out; omega
     case rel => exact ⟨(x3_1), (wrap64 (x4_1 + 1)), Z2, H', ⟨Z6⟩, ⟨(Z11 HO_3)⟩, ⟨Z75⟩⟩
    replace c8 := Bool.eq_false_iff.mpr c8; subst c8; replace H := Yf H; have H' := Aside0.mk H; clear H; have p6 : 0 ≤ (x4_1 : Int) := of_decide_eq_true Z5; have q6 : x4_1 < (a0.size : Int) := of_decide_eq_true Z5; have hx6 := bt_at a0 x4_1; replace p6 := eq_true p6; replace q6 := eq_true q6
    go_wp2_with (first | ((with_reducible refine gate_callee (f := 48) rfl ?_); refine goesL_ (some 14) rfl rfl Tryz.func48 Z0 rfl #[.int .u8 (bt a0 x4_1)] rfl Z10 ?_; (with_reducible refine (impl_isSpace.calls (bt a0 x4_1) false _ A7.out).mono ?_); rintro e w' ⟨rfl, ⟨nd, rfl⟩⟩; refine ⟨_, rfl, ?_⟩))
    go_loopg [4] k1 (fun kq v4 w' => ∃ (x4_2 : Int), v4 = .int .i64 x4_2 ∧ Aside0 (impl_spots.l1 kq a0 x3_1 x4_2 x4_1 = some r) ∧ Aside0 (kq ≤ k1) ∧ Aside0 (Kd.R k57 57 w' w.heap.size (fun _ => True) u3 x3_1) ∧ Aside0 (Below w.heap.size w w'))
    case atStart => exact ⟨(x4_1), Z2, H', ⟨Nat.le_refl _⟩, ⟨(Z11 HO_3)⟩, ⟨Z75⟩⟩
    case round =>
     clear H'; (try clear c2); (try clear p2); (try clear c4); (try clear c4b0); (try clear c5); (try clear c5b0); (try clear p6); (try clear q6); (try clear hx6); (try clear c8); (try clear p2); (try clear p6); (try clear q6); obtain ⟨x4_2, rfl, HA, HK2, HO_3, HB⟩ := hrel
     cases gk with
     | zero => exact absurd HA.out (by simp [impl_spots.l1])
     | succ k2 =>
      have H := HA.out; clear HA; simp only [impl_spots.l1] at H; replace H := Yi H; rcases H with ⟨c9, H⟩ | ⟨c9, H⟩
      ·have c9b0 := decide_eq_true c9; clear c9; replace H := Yg H; obtain ⟨c10, H⟩ := H; have c10b0 := decide_eq_true c10; clear c10; replace H := Yd H; obtain ⟨t547, A12, H⟩ := H; (try dsimp only at H); by_cases c13 : t547 = true
       ·subst c13; replace H := Yt H; replace H := Yg H; obtain ⟨c14, H⟩ := H; have c14b0 := eq_true c14; have c14b1 := decide_eq_true c14; clear c14; replace H := Yg H; obtain ⟨c15, H⟩ := H; have c15b0 := eq_true c15; have c15b1 := decide_eq_true c15; clear c15; replace H := Yg H; obtain ⟨c16, H⟩ := H; have c16b0 := eq_true c16; have c16b1 := decide_eq_true c16; clear c16; replace H := Yg H; obtain ⟨c17, H⟩ := H; have LMc17 := Aside0.mk c17; clear c17; obtain ⟨y548, hy548⟩ : ∃ y_ : List (S57), y_ = (x3_1 ++ [(⟨a0.extract (x4_1 : Int).toNat (x4_2 : Int).toNat, x4_1⟩ : S57)]) := ⟨_, rfl⟩; replace H : (impl_spots.l0 k2 a0 y548 x4_2) = some r := Yy hy548 H; have Ny548 := Aside0.mk hy548; clear hy548; have H' := Aside0.mk H; clear H; have p11 : 0 ≤ (x4_2 : Int) := of_decide_eq_true Z5; have q11 : x4_2 < (a0.size : Int) := of_decide_eq_true Z5; have hx11 := bt_at a0 x4_2; replace p11 := eq_true p11; replace q11 := eq_true q11
        go_wp2_with (first | (go_at_call 48; (with_reducible refine (impl_isSpace.calls (bt a0 x4_2) true _ A12.out).mono ?_); rintro e w' ⟨rfl, ⟨nd, rfl⟩⟩) | ((with_reducible refine gate_builtin (b := .append) (xs := #[.tmp 31, .tmp 38]) rfl ?_); at_builtin; refine Kd.R_append k57 (w0 := w) w.heap.size rfl (.tmp 31) (.tmp 38) 54 57 (.agg #[(.string ⟨#[]⟩), (.int .i64 0)]) 24 rfl Tryz.underlying54 info57 rfl (by decide) (by omega) u3 x3_1 (⟨a0.extract (x4_1 : Int).toNat (x4_2 : Int).toNat, x4_1⟩ : S57) [.string (a0.extract (x4_1 : Int).toNat (x4_2 : Int).toNat), .int .i64 x4_1] (fun _ => True) (fun _ => False) rfl rfl ?aP (fun _ hk => hk.elim) ?aF ?aO ?aB ?aS ?aL ?_; (case aP => exact k57_mkM _ _ _ (⟨a0.extract (x4_1 : Int).toNat (x4_2 : Int).toNat, x4_1⟩ : S57)); (case aB => exact Z75); (case aF => exact (fun _ _ => trivial)); (case aO => exact (Z11 HO_3)); (case aS => exact (below_size Z75)); (case aL => have := LMc17.out; omega); intro v549 w18 ho hb hg hat; rw [← Ny548.out] at ho; replace HB := Z (hb); have HO550 := Z (ho); clear HO_3; clear ho hb hg hat))
        go_roundg k2
        case measure => have := HK1.out; have := HK2.out; omega
        case rel => exact ⟨(y548), (x4_2), Z2, H', ⟨Z40⟩, ⟨(Z11 HO550)⟩, ⟨Z75⟩⟩
       replace c13 := Bool.eq_false_iff.mpr c13; subst c13; replace H := Yf H; have H' := Aside0.mk H; clear H; have p11 : 0 ≤ (x4_2 : Int) := of_decide_eq_true Z5; have q11 : x4_2 < (a0.size : Int) := of_decide_eq_true Z5; have hx11 := bt_at a0 x4_2; replace p11 := eq_true p11; replace q11 := eq_true q11
       go_wp2_with (first | (go_at_call 48; (with_reducible refine (impl_isSpace.calls (bt a0 x4_2) false _ A12.out).mono ?_); rintro e w' ⟨rfl, ⟨nd, rfl⟩⟩))
       go_roundg k2
       case measure => have := HK1.out; have := HK2.out; omega
       case rel => exact ⟨(wrap64 (x4_2 + 1)), Z2, H', ⟨Z40⟩, ⟨(Z11 HO_3)⟩, ⟨Z75⟩⟩
      have c9b0 := decide_eq_false c9; clear c9; replace H := Yg H; obtain ⟨c19, H⟩ := H; have c19b0 := eq_true c19; have c19b1 := decide_eq_true c19; clear c19; replace H := Yg H; obtain ⟨c20, H⟩ := H; have c20b0 := eq_true c20; have c20b1 := decide_eq_true c20; clear c20; replace H := Yg H; obtain ⟨c21, H⟩ := H; have c21b0 := eq_true c21; have c21b1 := decide_eq_true c21; clear c21; replace H := Yg H; obtain ⟨c22, H⟩ := H; have LMc22 := Aside0.mk c22; clear c22; obtain ⟨y551, hy551⟩ : ∃ y_ : List (S57), y_ = (x3_1 ++ [(⟨a0.extract (x4_1 : Int).toNat (x4_2 : Int).toNat, x4_1⟩ : S57)]) := ⟨_, rfl⟩; replace H : (impl_spots.l0 k2 a0 y551 x4_2) = some r := Yy hy551 H; have Ny551 := Aside0.mk hy551; clear hy551; have H' := Aside0.mk H; clear H
      go_wp2_with (first | ((with_reducible refine gate_builtin (b := .append) (xs := #[.tmp 31, .tmp 38]) rfl ?_); at_builtin; refine Kd.R_append k57 (w0 := w) w.heap.size rfl (.tmp 31) (.tmp 38) 54 57 (.agg #[(.string ⟨#[]⟩), (.int .i64 0)]) 24 rfl Tryz.underlying54 info57 rfl (by decide) (by omega) u3 x3_1 (⟨a0.extract (x4_1 : Int).toNat (x4_2 : Int).toNat, x4_1⟩ : S57) [.string (a0.extract (x4_1 : Int).toNat (x4_2 : Int).toNat), .int .i64 x4_1] (fun _ => True) (fun _ => False) rfl rfl ?aP (fun _ hk => hk.elim) ?aF ?aO ?aB ?aS ?aL ?_; (case aP => exact k57_mkM _ _ _ (⟨a0.extract (x4_1 : Int).toNat (x4_2 : Int).toNat, x4_1⟩ : S57)); (case aB => exact Z75); (case aF => exact (fun _ _ => trivial)); (case aO => exact (Z11 HO_3)); (case aS => exact (below_size Z75)); (case aL => have := LMc22.out; omega); intro v552 w23 ho hb hg hat; rw [← Ny551.out] at ho; replace HB := Z (hb); have HO553 := Z (ho); clear HO_3; clear ho hb hg hat))
      go_roundg k2
      case measure => have := HK1.out; have := HK2.out; omega
      case rel => exact ⟨(y551), (x4_2), Z2, H', ⟨Z40⟩, ⟨(Z11 HO553)⟩, ⟨Z75⟩⟩
   have c4b0 := decide_eq_false c4; clear c4; obtain rfl := Option.some.inj H
   go_wp2
   go_ret
   exact ⟨_, Z76, (Z11 HO_3), Z75⟩

def impl_ReadHex.f (a0 : ByteArray) : Option (Int × Bool) := if a0.size ≤ 281474976710656 then some (ParseHex.v a0.data.toList) else none
theorem impl_ReadHex.calls (a0 : ByteArray) (r0 : Int) (r1 : Bool) (w : World) (h : impl_ReadHex.f a0 = some (r0, r1)) (HT0 : Aside0 (Atoi.Tab w)) :
  Calls Tryz.prog 79 #[.string a0] w fun e w' => e = .returned (.tuple #[.int .u32 r0, .bool r1]) ∧ Below w.heap.size w w' := by
 unfold impl_ReadHex.f at h
 split at h
 case isFalse => cases h
 rename_i hs
 have hr := Option.some.inj h; obtain ⟨rfl, rfl⟩ : r0 = (ParseHex.v a0.data.toList).1 ∧ r1 = (ParseHex.v a0.data.toList).2 := by rw [hr]; exact ⟨rfl, rfl⟩
 exact ParseHex.readHex a0 hs w HT0.out

def stringslite_Index.f (a0 : ByteArray) (a1 : ByteArray) : Option (Int) := match a1.data.toList with
 | [c] => some (Lib.indexByte a0.data.toList c)
 | _ => none
set_option maxHeartbeats 4000000 in
set_option maxRecDepth 100000 in
theorem stringslite_Index.calls (a0 : ByteArray) (a1 : ByteArray) (r : Int) (w : World) (h : stringslite_Index.f a0 a1 = some r) :
  Calls Tryz.prog 107 #[.string a0, .string a1] w fun e w' => e = .returned (.int .i64 r) ∧ Drawn0 w w' := by
 obtain ⟨c, rfl⟩ : ∃ c, a1 = ⟨#[c]⟩ := by
  unfold stringslite_Index.f at h
  split at h
  ·rename_i c hc
   exact ⟨c, ByteArray.ext (Array.toList_inj.1 hc)⟩
  ·cases h
 obtain rfl : (Lib.indexByte a0.data.toList c : Int) = r := Option.some.inj h; clear h
 have key : ∀ w, Calls Tryz.prog 131 #[.string a0, .int .u8 c.toNat] w fun e w' => e = .returned (.int .i64 (Lib.indexByte a0.data.toList c)) ∧ w' = w := by
  intro w; go_enter Tryz.func131, Tryz.ntmps131
  go_wp2
  rw [run_callFunc_extern Tryz.func153 Z0 Z0 Z0 (e := Extern.BytealgIndexByte.indexByte) Z0, Lib.run_indexByteString]; simp only [Result.andThen]; rw [Oper.upon_value]
  go_wp2
  go_ret
  refine ⟨by simp, rfl⟩
 go_enter Tryz.func107, Tryz.ntmps107
 go_wp2_with (go_at_call 131; refine (key _).mono ?_; rintro e w' ⟨rfl, rfl⟩)
 ·have h : ([c] == a0.toList) = true := by assumption
  go_ret
  refine ⟨?_, Drawn0.refl _⟩
  have e : a0.data.toList = [c] := by rw [← Lib.toList_data]; exact (beq_iff_eq.1 h).symm
  rw [e]
  simp [Lib.indexByte]
 ·go_ret
  exact ⟨rfl, Drawn0.refl _⟩

def stringslite_Cut.f (a0 : ByteArray) (a1 : ByteArray) : Option (ByteArray × ByteArray × Bool) := (stringslite_Index.f a0 a1).bind fun t554 => (if t554 ≥ 0 then (if 0 ≤ t554 then (if t554 ≤ (a0.size : Int) then (if 0 ≤ (wrap64 (t554 + (a1.size : Int))) then (if (wrap64 (t554 + (a1.size : Int))) ≤ (a0.size : Int) then (some (a0.extract 0 (t554 : Int).toNat, a0.extract ((wrap64 (t554 + (a1.size : Int))) : Int).toNat a0.size, true)) else (none)) else (none)) else (none)) else (none)) else (some (a0, (⟨#[]⟩ : ByteArray), false)))
theorem stringslite_Cut.calls (a0 : ByteArray) (a1 : ByteArray) (r1 : ByteArray) (r2 : ByteArray) (r3 : Bool) (w : World) (h : stringslite_Cut.f a0 a1 = some (r1, r2, r3)) :
  Calls Tryz.prog 104 #[.string a0, .string a1] w fun e w' => e = .returned (.tuple #[.string r1, .string r2, .bool r3]) ∧ Drawn0 w w' := by
 unfold stringslite_Cut.f at h; have H := h; clear h; replace H := Yd H; obtain ⟨t554, A3, H⟩ := H; (try dsimp only at H); replace H := Yi H; rcases H with ⟨c4, H⟩ | ⟨c4, H⟩
 ·have c4b0 : decide (0 ≤ t554) = true := decide_eq_true c4; clear c4; replace H := Yg H; obtain ⟨c5, H⟩ := H; have c5b0 := eq_true c5; have c5b1 := decide_eq_true c5; clear c5; replace H := Yg H; obtain ⟨c6, H⟩ := H; have c6b0 := eq_true c6; have c6b1 := decide_eq_true c6; clear c6; obtain ⟨ji7, hji7⟩ : ∃ j_ : Int, (wrap64 (t554 + (a1.size : Int))) = j_ := ⟨_, rfl⟩; replace H : (if 0 ≤ (ji7) then (if (ji7) ≤ (a0.size : Int) then (some (a0.extract 0 (t554 : Int).toNat, a0.extract ((ji7) : Int).toNat a0.size, true)) else (none)) else (none)) = some (r1, r2, r3) := Z45
  (try rw [hji7] at A3)
  have hji7w : (IntKind.i64.wrap (t554 + (a1.size : Int))) = ji7 := (i64_w _).trans hji7; replace H := Yg H; obtain ⟨c8, H⟩ := H; have c8b0 := eq_true c8; have c8b1 := decide_eq_true c8; clear c8; replace H := Yg H; obtain ⟨c9, H⟩ := H; have c9b0 := eq_true c9; have c9b1 := decide_eq_true c9; clear c9; simp only [Option.some.injEq, Prod.mk.injEq] at H; obtain ⟨rfl, rfl, rfl⟩ := H; go_enter Tryz.func104, Tryz.ntmps104
  go_wp2_with (first | (go_at_call 107; (with_reducible refine (stringslite_Index.calls a0 a1 t554 _ A3.out).mono ?_); rintro e w' ⟨rfl, ⟨nd, rfl⟩⟩; (try first | exact ⟨rfl, _, World.drewN_drewN _ _ _⟩ | exact ⟨rfl, _, Eq.trans (World.drewN_drewN _ _ _) (congrArg (World.drewN _) (Nat.add_assoc _ _ _))⟩)))
  repeat (go_quiet (first | (go_at_call 107; (with_reducible refine (stringslite_Index.calls a0 a1 t554 _ A3.out).mono ?_); rintro e w' ⟨rfl, ⟨nd, rfl⟩⟩; (try first | exact ⟨rfl, _, World.drewN_drewN _ _ _⟩ | exact ⟨rfl, _, Eq.trans (World.drewN_drewN _ _ _) (congrArg (World.drewN _) (Nat.add_assoc _ _ _))⟩))); try go_wp2_with (first | (go_at_call 107; (with_reducible refine (stringslite_Index.calls a0 a1 t554 _ A3.out).mono ?_); rintro e w' ⟨rfl, ⟨nd, rfl⟩⟩; (try first | exact ⟨rfl, _, World.drewN_drewN _ _ _⟩ | exact ⟨rfl, _, Eq.trans (World.drewN_drewN _ _ _) (congrArg (World.drewN _) (Nat.add_assoc _ _ _))⟩))))
  go_ret3
  exact ⟨Z46, Z3⟩
 have c4b0 : decide (0 ≤ t554) = false := decide_eq_false c4; clear c4; simp only [Option.some.injEq, Prod.mk.injEq] at H; obtain ⟨rfl, rfl, rfl⟩ := H; go_enter Tryz.func104, Tryz.ntmps104
 go_wp2_with (first | (go_at_call 107; (with_reducible refine (stringslite_Index.calls a0 a1 t554 _ A3.out).mono ?_); rintro e w' ⟨rfl, ⟨nd, rfl⟩⟩; (try first | exact ⟨rfl, _, World.drewN_drewN _ _ _⟩ | exact ⟨rfl, _, Eq.trans (World.drewN_drewN _ _ _) (congrArg (World.drewN _) (Nat.add_assoc _ _ _))⟩)))
 repeat (go_quiet (first | (go_at_call 107; (with_reducible refine (stringslite_Index.calls a0 a1 t554 _ A3.out).mono ?_); rintro e w' ⟨rfl, ⟨nd, rfl⟩⟩; (try first | exact ⟨rfl, _, World.drewN_drewN _ _ _⟩ | exact ⟨rfl, _, Eq.trans (World.drewN_drewN _ _ _) (congrArg (World.drewN _) (Nat.add_assoc _ _ _))⟩))); try go_wp2_with (first | (go_at_call 107; (with_reducible refine (stringslite_Index.calls a0 a1 t554 _ A3.out).mono ?_); rintro e w' ⟨rfl, ⟨nd, rfl⟩⟩; (try first | exact ⟨rfl, _, World.drewN_drewN _ _ _⟩ | exact ⟨rfl, _, Eq.trans (World.drewN_drewN _ _ _) (congrArg (World.drewN _) (Nat.add_assoc _ _ _))⟩))))
 go_ret3
 exact ⟨Z2, Z3⟩

def strings_Cut.f (a0 : ByteArray) (a1 : ByteArray) : Option (ByteArray × ByteArray × Bool) := (stringslite_Cut.f a0 a1).bind fun bt555 => (some (bt555.1, bt555.2.1, bt555.2.2))
theorem strings_Cut.calls (a0 : ByteArray) (a1 : ByteArray) (r1 : ByteArray) (r2 : ByteArray) (r3 : Bool) (w : World) (h : strings_Cut.f a0 a1 = some (r1, r2, r3)) :
  Calls Tryz.prog 80 #[.string a0, .string a1] w fun e w' => e = .returned (.tuple #[.string r1, .string r2, .bool r3]) ∧ Drawn0 w w' := by
 unfold strings_Cut.f at h; have H := h; clear h; replace H := Yd H; obtain ⟨⟨t555, t556, t557⟩, A3, H⟩ := H; (try dsimp only at H); simp only [Option.some.injEq, Prod.mk.injEq] at H; obtain ⟨rfl, rfl, rfl⟩ := H; go_enter Tryz.func80, Tryz.ntmps80
 go_wp2_with (first | ((with_reducible refine gate_callee (f := 104) rfl ?_); refine goesL_ (some 9) rfl rfl Tryz.func104 Z0 rfl #[.string a0, .string a1] rfl Z10 ?_; (with_reducible refine (stringslite_Cut.calls a0 a1 t555 t556 t557 _ A3.out).mono ?_); rintro e w' ⟨rfl, ⟨nd, rfl⟩⟩; refine ⟨_, rfl, ?_⟩))
 go_ret3
 exact ⟨Z2, Z3⟩

def impl_ReadDec.v (l : List UInt8) : Int × Bool := match Lib.atoiAll l with
 | .ok v => if (-9999999999 ≤ v ∧ v ≤ 9999999999) ∧ Lib.itoa v = l then (v, true) else (0, false)
 | _ => (0, false)
def impl_ReadDec.f (a0 : ByteArray) : Option (Int × Bool) := if a0.size ≤ 281474976710656 then some (impl_ReadDec.v a0.data.toList) else none
set_option maxHeartbeats 4000000 in
set_option maxRecDepth 100000 in
theorem impl_ReadDec.calls (a0 : ByteArray) (r0 : Int) (r1 : Bool) (w : World) (h : impl_ReadDec.f a0 = some (r0, r1)) (HT0 : Aside0 (Atoi.Tab w)) :
  Calls Tryz.prog 105 #[.string a0] w fun e w' => e = .returned (.tuple #[.int .i64 r0, .bool r1]) ∧ Below w.heap.size w w' := by
 unfold impl_ReadDec.f at h
 split at h
 case isFalse => cases h
 rename_i hs
 have hr := Option.some.inj h; clear h; obtain ⟨rfl, rfl⟩ : r0 = (impl_ReadDec.v a0.data.toList).1 ∧ r1 = (impl_ReadDec.v a0.data.toList).2 := by rw [hr]; exact ⟨rfl, rfl⟩
 clear hr; have HS := Aside0.mk hs; clear hs; by_cases hv : ∃ v, Lib.atoiAll a0.data.toList = .ok v
 ·obtain ⟨v, hv⟩ := hv; unfold impl_ReadDec.v; rw [hv]; have HV := Aside0.mk hv; clear hv; by_cases c1 : v < -9999999999
  ·have e1 : (if (-9999999999 ≤ v ∧ v ≤ 9999999999) ∧ Lib.itoa v = a0.data.toList then (v, true) else (0, false)) = ((0 : Int), false) := if_neg (fun h => by omega); have b1 : decide (v < -9999999999) = true := decide_eq_true c1; simp only [e1]; clear c1 e1; go_enter Tryz.func105, Tryz.ntmps105
   go_wp2_with (go_at_call 129; refine (Atoi.ok a0 HS.out v HV.out _).mono ?_; rintro e w1 ⟨rfl, hb⟩)
   go_ret2
   exact ⟨rfl, hb⟩
  have b1 : decide (v < -9999999999) = false := decide_eq_false c1; by_cases c2 : v > 9999999999
  ·have e1 : (if (-9999999999 ≤ v ∧ v ≤ 9999999999) ∧ Lib.itoa v = a0.data.toList then (v, true) else (0, false)) = ((0 : Int), false) := if_neg (fun h => by omega); have b2 : decide (v > 9999999999) = true := decide_eq_true c2; have b3 : decide (9999999999 < v) = true := decide_eq_true c2; simp only [e1]; clear c1 c2 e1; go_enter Tryz.func105, Tryz.ntmps105
   go_wp2_with (go_at_call 129; refine (Atoi.ok a0 HS.out v HV.out _).mono ?_; rintro e w1 ⟨rfl, hb⟩)
   go_ret2
   exact ⟨rfl, hb⟩
  have b2 : decide (v > 9999999999) = false := decide_eq_false c2; have b3 : decide (9999999999 < v) = false := decide_eq_false c2; have HI := Z (show -9223372036854775808 ≤ v ∧ v ≤ 9223372036854775807 by omega); by_cases c3 : Lib.itoa v = a0.data.toList
  ·have e1 : (if (-9999999999 ≤ v ∧ v ≤ 9999999999) ∧ Lib.itoa v = a0.data.toList then (v, true) else (0, false)) = (v, true) := if_pos ⟨by omega, c3⟩; have hx : (⟨(Lib.itoa v).toArray⟩ : ByteArray) = a0 := ByteArray.ext (Array.toList_inj.1 (by simpa using c3)); have HX := Aside0.mk hx; simp only [e1]; clear c1 c2 c3 e1 hx; go_enter Tryz.func105, Tryz.ntmps105
   go_wp2_with (first | (go_at_call 129; refine (Atoi.ok a0 HS.out v HV.out _).mono ?_; rintro e w1 ⟨rfl, hb⟩) | (go_at_call 78; refine (Itoa.decText v a0 HX.out HI.out.1 HI.out.2 _ (Itoa.tab_at HT0.out.1 hb)).mono ?_; rintro e w2 ⟨rfl, hb2⟩; have hb3 := hb.trans (hb2.mono hb.size); clear hb2))
   go_ret2
   exact ⟨rfl, hb3⟩
  have e1 : (if (-9999999999 ≤ v ∧ v ≤ 9999999999) ∧ Lib.itoa v = a0.data.toList then (v, true) else (0, false)) = ((0 : Int), false) := if_neg (fun h => c3 h.2); obtain ⟨t, ht⟩ : ∃ t : ByteArray, t = ⟨(Lib.itoa v).toArray⟩ := ⟨_, rfl⟩
  have b4 : (t.toList == a0.toList) = false := by
   rw [beq_eq_false_iff_ne, ByteArray.toList_eq, ByteArray.toList_eq, ht]
   simpa using c3
  have b5 : (t.toList != a0.toList) = true := by rw [bne, b4]; rfl
  have HX := Aside0.mk ht.symm; simp only [e1]; clear c1 c2 c3 e1 ht; go_enter Tryz.func105, Tryz.ntmps105
  go_wp2_with (first | (go_at_call 129; refine (Atoi.ok a0 HS.out v HV.out _).mono ?_; rintro e w1 ⟨rfl, hb⟩) | (go_at_call 78; refine (Itoa.decText v t HX.out HI.out.1 HI.out.2 _ (Itoa.tab_at HT0.out.1 hb)).mono ?_; rintro e w2 ⟨rfl, hb2⟩; have hb3 := hb.trans (hb2.mono hb.size); clear hb2))
  go_ret2
  exact ⟨rfl, hb3⟩
 ·have hv' : ∀ v, Lib.atoiAll a0.data.toList ≠ .ok v := fun v h => hv ⟨v, h⟩
  have e1 : impl_ReadDec.v a0.data.toList = (0, false) := by
   unfold impl_ReadDec.v
   split
   ·rename_i h; exact absurd h (hv' _)
   ·rfl
  have HV := Aside0.mk hv'; simp only [e1]; clear hv hv' e1; go_enter Tryz.func105, Tryz.ntmps105
  go_wp2_with (go_at_call 129; refine (Atoi.bad a0 HS.out HV.out _ HT0.out).mono ?_; rintro e w1 ⟨⟨n_, t_, N_, rfl⟩, hb⟩)
  go_ret2
  exact ⟨rfl, hb⟩

def impl_small.f (a0 : ByteArray) : Option (Int × Bool) := (impl_ReadDec.f a0).bind fun bt558 => (if bt558.2 = true then (some (wrap32 (bt558.1), (bt558.1 == (wrap64 (wrap32 (bt558.1)))))) else (some (wrap32 (bt558.1), false)))
theorem impl_small.calls (a0 : ByteArray) (r1 : Int) (r2 : Bool) (w : World) (h : impl_small.f a0 = some (r1, r2)) (HT0 : Aside0 (Atoi.Tab w)) :
  Calls Tryz.prog 81 #[.string a0] w fun e w' => e = .returned (.tuple #[.int .i32 r1, .bool r2]) ∧ Below w.heap.size w w' := by
 have HB := Z (Below.refl w.heap.size w); unfold impl_small.f at h; have H := h; clear h; replace H := Yd H; obtain ⟨⟨t558, t559⟩, A2, H⟩ := H; (try dsimp only at H); by_cases c3 : t559 = true
 ·subst c3; replace H := Yt H; simp only [Option.some.injEq, Prod.mk.injEq] at H; obtain ⟨rfl, rfl⟩ := H; go_enter Tryz.func81, Tryz.ntmps81
  go_wp2_with (first | ((with_reducible refine gate_callee (f := 105) rfl ?_); refine goesL_ (some 8) rfl rfl Tryz.func105 Z0 rfl #[.string a0] rfl Z10 ?_; (with_reducible refine (impl_ReadDec.calls a0 t558 true _ A2.out ⟨Atoi.tab_at HT0.out Z85⟩).mono ?_); rintro e w4 ⟨rfl, hb⟩; refine ⟨_, rfl, ?_⟩; replace HB := Z (below_step Z75 hb); (try clear hb); (try clear hb2); (try clear hk); (try clear hi)))
  go_ret2
  exact ⟨Z76, Z75⟩
 replace c3 := Bool.eq_false_iff.mpr c3; subst c3; replace H := Yf H; simp only [Option.some.injEq, Prod.mk.injEq] at H; obtain ⟨rfl, rfl⟩ := H; go_enter Tryz.func81, Tryz.ntmps81
 go_wp2_with (first | ((with_reducible refine gate_callee (f := 105) rfl ?_); refine goesL_ (some 8) rfl rfl Tryz.func105 Z0 rfl #[.string a0] rfl Z10 ?_; (with_reducible refine (impl_ReadDec.calls a0 t558 false _ A2.out ⟨Atoi.tab_at HT0.out Z85⟩).mono ?_); rintro e w5 ⟨rfl, hb⟩; refine ⟨_, rfl, ?_⟩; replace HB := Z (below_step Z75 hb); (try clear hb); (try clear hb2); (try clear hk); (try clear hi)))
 go_ret2
 exact ⟨Z76, Z75⟩

def stringslite_HasPrefix.f (a0 : ByteArray) (a1 : ByteArray) : Option (Bool) := if (a0.size : Int) ≥ (a1.size : Int) then (if 0 ≤ (a1.size : Int) then (if (a1.size : Int) ≤ (a0.size : Int) then (some ((a0.extract 0 ((a1.size : Int) : Int).toNat).toList == a1.toList)) else (none)) else (none)) else (some false)
theorem stringslite_HasPrefix.calls (a0 : ByteArray) (a1 : ByteArray) (r : Bool) (w : World) (h : stringslite_HasPrefix.f a0 a1 = some r) :
  Calls Tryz.prog 130 #[.string a0, .string a1] w fun e w' => e = .returned (.bool r) ∧ Drawn0 w w' := by
 unfold stringslite_HasPrefix.f at h; have H := h; clear h; replace H := Yi H; rcases H with ⟨c3, H⟩ | ⟨c3, H⟩
 ·have c3b0 : decide ((a1.size : Int) ≤ (a0.size : Int)) = true := decide_eq_true c3; have c3b1 : decide (a1.size ≤ a0.size) = true := decide_eq_true (Int.ofNat_le.mp c3); clear c3; replace H := Yg H; obtain ⟨c4, H⟩ := H; have c4b0 := eq_true c4; have c4b1 := decide_eq_true c4; clear c4; replace H := Yg H; obtain ⟨c5, H⟩ := H; have c5b0 := eq_true c5; have c5b1 := decide_eq_true c5; clear c5; obtain rfl := Option.some.inj H; go_enter Tryz.func130, Tryz.ntmps130
  go_wp2
  go_ret
  exact ⟨Z2, Z3⟩
 have c3b0 : decide ((a1.size : Int) ≤ (a0.size : Int)) = false := decide_eq_false c3; have c3b1 : decide (a1.size ≤ a0.size) = false := decide_eq_false (fun h => c3 (Int.ofNat_le.mpr h)); clear c3; obtain rfl := Option.some.inj H; go_enter Tryz.func130, Tryz.ntmps130
 go_wp2
 go_ret
 exact ⟨Z2, Z3⟩

def stringslite_CutPrefix.f (a0 : ByteArray) (a1 : ByteArray) : Option (ByteArray × Bool) := (stringslite_HasPrefix.f a0 a1).bind fun t560 => (if t560 = true then (if 0 ≤ (a1.size : Int) then (if (a1.size : Int) ≤ (a0.size : Int) then (some (a0.extract ((a1.size : Int) : Int).toNat a0.size, true)) else (none)) else (none)) else (some (a0, false)))
theorem stringslite_CutPrefix.calls (a0 : ByteArray) (a1 : ByteArray) (r1 : ByteArray) (r2 : Bool) (w : World) (h : stringslite_CutPrefix.f a0 a1 = some (r1, r2)) :
  Calls Tryz.prog 106 #[.string a0, .string a1] w fun e w' => e = .returned (.tuple #[.string r1, .bool r2]) ∧ Drawn0 w w' := by
 unfold stringslite_CutPrefix.f at h; have H := h; clear h; replace H := Yd H; obtain ⟨t560, A3, H⟩ := H; (try dsimp only at H); by_cases c4 : t560 = true
 ·subst c4; replace H := Yt H; replace H := Yg H; obtain ⟨c5, H⟩ := H; have c5b0 := eq_true c5; have c5b1 := decide_eq_true c5; clear c5; replace H := Yg H; obtain ⟨c6, H⟩ := H; have c6b0 := eq_true c6; have c6b1 := decide_eq_true c6; clear c6; simp only [Option.some.injEq, Prod.mk.injEq] at H; obtain ⟨rfl, rfl⟩ := H; go_enter Tryz.func106, Tryz.ntmps106
  go_wp2_with (first | ((with_reducible refine gate_callee (f := 130) rfl ?_); refine goesL_ (some 8) rfl rfl Tryz.func130 Z0 rfl #[.string a0, .string a1] rfl Z10 ?_; (with_reducible refine (stringslite_HasPrefix.calls a0 a1 true _ A3.out).mono ?_); rintro e w' ⟨rfl, ⟨nd, rfl⟩⟩; refine ⟨_, rfl, ?_⟩))
  go_ret2
  exact ⟨Z2, Z3⟩
 replace c4 := Bool.eq_false_iff.mpr c4; subst c4; replace H := Yf H; simp only [Option.some.injEq, Prod.mk.injEq] at H; obtain ⟨rfl, rfl⟩ := H; go_enter Tryz.func106, Tryz.ntmps106
 go_wp2_with (first | ((with_reducible refine gate_callee (f := 130) rfl ?_); refine goesL_ (some 8) rfl rfl Tryz.func130 Z0 rfl #[.string a0, .string a1] rfl Z10 ?_; (with_reducible refine (stringslite_HasPrefix.calls a0 a1 false _ A3.out).mono ?_); rintro e w' ⟨rfl, ⟨nd, rfl⟩⟩; refine ⟨_, rfl, ?_⟩))
 go_ret2
 exact ⟨Z2, Z3⟩

def strings_CutPrefix.f (a0 : ByteArray) (a1 : ByteArray) : Option (ByteArray × Bool) := (stringslite_CutPrefix.f a0 a1).bind fun bt561 => (some (bt561.1, bt561.2))
theorem strings_CutPrefix.calls (a0 : ByteArray) (a1 : ByteArray) (r1 : ByteArray) (r2 : Bool) (w : World) (h : strings_CutPrefix.f a0 a1 = some (r1, r2)) :
  Calls Tryz.prog 82 #[.string a0, .string a1] w fun e w' => e = .returned (.tuple #[.string r1, .bool r2]) ∧ Drawn0 w w' := by
 unfold strings_CutPrefix.f at h; have H := h; clear h; replace H := Yd H; obtain ⟨⟨t561, t562⟩, A3, H⟩ := H; (try dsimp only at H); simp only [Option.some.injEq, Prod.mk.injEq] at H; obtain ⟨rfl, rfl⟩ := H; go_enter Tryz.func82, Tryz.ntmps82
 go_wp2_with (first | ((with_reducible refine gate_callee (f := 106) rfl ?_); refine goesL_ (some 8) rfl rfl Tryz.func106 Z0 rfl #[.string a0, .string a1] rfl Z10 ?_; (with_reducible refine (stringslite_CutPrefix.calls a0 a1 t561 t562 _ A3.out).mono ?_); rintro e w' ⟨rfl, ⟨nd, rfl⟩⟩; refine ⟨_, rfl, ?_⟩))
 go_ret2
 exact ⟨Z2, Z3⟩

end Go.Proofs.YtfjmpdcflnaogaaGreatDoor.QFnNotes
