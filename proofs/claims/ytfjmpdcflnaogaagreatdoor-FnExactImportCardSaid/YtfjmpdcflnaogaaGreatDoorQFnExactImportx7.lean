/-
Plain functions for the Go functions that a law reaches, each with a proof that the translation's call comes to just that; no conditions beyond those written in each.
-/
import Derived.Test.YtfjmpdcflnaogaaGreatDoorSFnExactImport
import Derived.Test.YtfjmpdcflnaogaaGreatDoorQFnExactImportx5
import Derived.Test.YtfjmpdcflnaogaaGreatDoorQFnExactImportx6
namespace Go.Proofs.YtfjmpdcflnaogaaGreatDoor.QFnExactImport
open Go.RowKit Go.Proofs.YtfjmpdcflnaogaaGreatDoorW.PrintWords Go.Proofs.YtfjmpdcflnaogaaGreatDoorW.PrintLast Go.Proofs.YtfjmpdcflnaogaaGreatDoorW.PrintMore
attribute [local go_sem] max2_int min2_int max_two min_two max_three min_three max_four min_four   -- for this text's walks alone
set_option linter.unusedVariables false
set_option maxHeartbeats 8000000
set_option maxRecDepth 100000
set_option linter.unusedSimpArgs false

theorem Yk7 {X W w1 : World} {g : Nat} {o : Obj} (h : Aside0 (X.heap[g]? = some o)) (hb : Below W.heap.size W w1) (e : X.heap[g]? = some o → W.heap[g]? = some o := by intro h_; repeat (first | (with_reducible exact h_) | (with_reducible first | refine blk_drewN ?_ _ | refine blk_drew ?_ | refine blk_alloc ?_ _) | refine blk_far ?_ (Aside0.out (by assumption)) _ | exact h_)) : w1.heap[g]? = some o := blk_below (e h.out) hb
def spec_ItemText.j0 : Nat → ByteArray → Int → Bool → Int → ByteArray → Int → Bool → Int → Option (ByteArray)
 | 0, _, _, _, _, _, _, _, _ => none
 | k + 1, x3, x11, x12, x489000, x489001, x489002, x489003, x489004 => if x12 = true then (if x489003 = true then (if x3.size + 1 ≤ 9223372036854775807 then ((spec_HexText.f k ((x489002) % 4294967296)).bind fun t491 => (if (x3 ++ (⟨#[36]⟩ : ByteArray)).size + t491.size ≤ 9223372036854775807 then (some ((x3 ++ (⟨#[36]⟩ : ByteArray)) ++ t491)) else (none))) else (none)) else (if x3.size + 1 ≤ 9223372036854775807 then ((spec_DecText.f k (wrap64 (x489002))).bind fun t492 => (if (x3 ++ (⟨#[35]⟩ : ByteArray)).size + t492.size ≤ 9223372036854775807 then (some ((x3 ++ (⟨#[35]⟩ : ByteArray)) ++ t492)) else (none))) else (none))) else (if x11 = 9 then (if x3.size + x489001.size ≤ 9223372036854775807 then (if (x3 ++ x489001).size + 1 ≤ 9223372036854775807 then ((spec_DecText.f k (wrap64 (x489002))).bind fun t493 => (if ((x3 ++ x489001) ++ (⟨#[35]⟩ : ByteArray)).size + t493.size ≤ 9223372036854775807 then (some (((x3 ++ x489001) ++ (⟨#[35]⟩ : ByteArray)) ++ t493)) else (none))) else (none)) else (none)) else (if x11 = 0 then ((spec_HexText.f k x489004).bind fun t494 => (if x3.size + t494.size ≤ 9223372036854775807 then (some (x3 ++ t494)) else (none))) else (if x3.size + x489001.size ≤ 9223372036854775807 then (some (x3 ++ x489001)) else (none))))
def spec_ItemText.f (k : Nat) (a0_0 : Int) (a0_1 : ByteArray) (a0_2 : Int) (a0_3 : Bool) (a0_4 : Int) : Option (ByteArray) := (spec_ItemOk.f k a0_0 a0_1 a0_2 a0_3 a0_4).bind fun t489 => (if t489 = true then ((spec_l06Mark.f k a0_0).bind fun t490 => (if a0_0 = 7 then (spec_ItemText.j0 k t490 a0_0 (a0_0 == 7) a0_0 a0_1 a0_2 a0_3 a0_4) else (spec_ItemText.j0 k t490 a0_0 (a0_0 == 8) a0_0 a0_1 a0_2 a0_3 a0_4))) else (some (⟨#[]⟩ : ByteArray)))
theorem spec_ItemText.calls (k : Nat) (a0_0 : Int) (a0_1 : ByteArray) (a0_2 : Int) (a0_3 : Bool) (a0_4 : Int) (r : ByteArray) (w : World) (h : spec_ItemText.f k a0_0 a0_1 a0_2 a0_3 a0_4 = some r) :
  Calls Tryz.prog 31 #[.agg #[.int .i64 a0_0, .string a0_1, .int .i32 a0_2, .bool a0_3, .int .u32 a0_4]] w fun e w' => e = .returned (.string r) ∧ Below w.heap.size w w' := by
 have hu46 := Tryz.underlying46; have HB := Z (Below.refl w.heap.size w); unfold spec_ItemText.f at h; have H := h; clear h; replace H := Yd H; obtain ⟨t489, A2, H⟩ := H; (try dsimp only at H); by_cases c3 : t489 = true
 ·subst c3; replace H := Yt H; replace H := Yd H; obtain ⟨t490, A4, H⟩ := H; (try dsimp only at H); have HC5 := Aside0.mk H; clear H; go_enter Tryz.func31, Tryz.ntmps31
  go_upto_if 12 with (first | ((with_reducible refine gate_dst (N := 1) rfl ?_); refine box_event (by rfl) (N := 1) (by rfl) (cs := #[.int .i64 a0_0, .string a0_1, .int .i32 a0_2, .bool a0_3, .int .u32 a0_4]) (t := 46) Z4 ?_; intro gb488 hg w6 hbox hb; have BK488 := Z (hbox); have GW488 := Z ((Z124 : w.heap.size ≤ gb488)); have GE488 := Z ((Z124 : w.heap.size ≤ gb488)); replace HB := Z (below_step Z90 hb); clear hb hbox hg; have hcz7 := Yb5 BK488.out) | (go_at_call 57; (with_reducible refine (spec_ItemOk.calls k a0_0 a0_1 a0_2 a0_3 a0_4 true _ A2.out).mono ?_); rintro e w8 ⟨rfl, hb⟩; replace BK488 := Z (Yk7 BK488 hb); replace HB := Z (below_step Z90 hb); (try clear hb); (try clear hb2); (try clear hk); (try clear hi); have hcz9 := Yb5 BK488.out) | (go_at_call 58; (with_reducible refine (spec_l06Mark.calls k a0_0 t490 _ A4.out).mono ?_); rintro e w' ⟨rfl, ⟨nd, rfl⟩⟩; (try first | exact ⟨rfl, _, World.drewN_drewN _ _ _⟩ | exact ⟨rfl, _, Eq.trans (World.drewN_drewN _ _ _) (congrArg (World.drewN _) (Nat.add_assoc _ _ _))⟩)))
  repeat (go_quiet (first | ((with_reducible refine gate_dst (N := 1) rfl ?_); refine box_event (by rfl) (N := 1) (by rfl) (cs := #[.int .i64 a0_0, .string a0_1, .int .i32 a0_2, .bool a0_3, .int .u32 a0_4]) (t := 46) Z4 ?_; intro gb488 hg w6 hbox hb; have BK488 := Z (hbox); have GW488 := Z ((Z124 : w.heap.size ≤ gb488)); have GE488 := Z ((Z124 : w.heap.size ≤ gb488)); replace HB := Z (below_step Z90 hb); clear hb hbox hg; have hcz7 := Yb5 BK488.out) | (go_at_call 57; (with_reducible refine (spec_ItemOk.calls k a0_0 a0_1 a0_2 a0_3 a0_4 true _ A2.out).mono ?_); rintro e w8 ⟨rfl, hb⟩; replace BK488 := Z (Yk7 BK488 hb); replace HB := Z (below_step Z90 hb); (try clear hb); (try clear hb2); (try clear hk); (try clear hi); have hcz9 := Yb5 BK488.out) | (go_at_call 58; (with_reducible refine (spec_l06Mark.calls k a0_0 t490 _ A4.out).mono ?_); rintro e w' ⟨rfl, ⟨nd, rfl⟩⟩; (try first | exact ⟨rfl, _, World.drewN_drewN _ _ _⟩ | exact ⟨rfl, _, Eq.trans (World.drewN_drewN _ _ _) (congrArg (World.drewN _) (Nat.add_assoc _ _ _))⟩))); go_upto_if 12 with (first | ((with_reducible refine gate_dst (N := 1) rfl ?_); refine box_event (by rfl) (N := 1) (by rfl) (cs := #[.int .i64 a0_0, .string a0_1, .int .i32 a0_2, .bool a0_3, .int .u32 a0_4]) (t := 46) Z4 ?_; intro gb488 hg w6 hbox hb; have BK488 := Z (hbox); have GW488 := Z ((Z124 : w.heap.size ≤ gb488)); have GE488 := Z ((Z124 : w.heap.size ≤ gb488)); replace HB := Z (below_step Z90 hb); clear hb hbox hg; have hcz7 := Yb5 BK488.out) | (go_at_call 57; (with_reducible refine (spec_ItemOk.calls k a0_0 a0_1 a0_2 a0_3 a0_4 true _ A2.out).mono ?_); rintro e w8 ⟨rfl, hb⟩; replace BK488 := Z (Yk7 BK488 hb); replace HB := Z (below_step Z90 hb); (try clear hb); (try clear hb2); (try clear hk); (try clear hi); have hcz9 := Yb5 BK488.out) | (go_at_call 58; (with_reducible refine (spec_l06Mark.calls k a0_0 t490 _ A4.out).mono ?_); rintro e w' ⟨rfl, ⟨nd, rfl⟩⟩; (try first | exact ⟨rfl, _, World.drewN_drewN _ _ _⟩ | exact ⟨rfl, _, Eq.trans (World.drewN_drewN _ _ _) (congrArg (World.drewN _) (Nat.add_assoc _ _ _))⟩))))
  (try simp only [Act.put, List.setIfInBounds_toArray, List.set_cons_zero, List.set_cons_succ])
  go_cut [12] (fun v12 wc => ∃ (kq : Nat) (x12_4 : Bool), v12 = .bool x12_4 ∧ Aside0 (spec_ItemText.j0 kq t490 a0_0 x12_4 a0_0 a0_1 a0_2 a0_3 a0_4 = some r) ∧ Aside0 (kq ≤ k) ∧ Aside0 (wc.heap[gb488]? = some (.cells #[.int .i64 a0_0, .string a0_1, .int .i32 a0_2, .bool a0_3, .int .u32 a0_4] 46 (0, 0))) ∧ Aside0 (Below w.heap.size w wc))
  case first =>
   have H := HC5.out; clear HC5; replace H := Yi H; rcases H with ⟨c10, H⟩ | ⟨c10, H⟩
   ·obtain ⟨c10b0, c10b1⟩ := Ye c10; clear c10
    (first | rw [c10b0] | (simp only [i64_w, i32_w]; rw [c10b0]) | skip)
    have H' := Aside0.mk H; clear H
    go_wp2
    repeat (go_quiet (fail); try go_wp2)
    go_meet
    case rel => exact ⟨_, ((a0_0 == 7)), Z2, H', ⟨Z14⟩, ⟨(Z15 BK488)⟩, ⟨Z90⟩⟩
   obtain ⟨c10b0, c10b1⟩ := Yn c10
   (first | rw [c10b0] | (simp only [i64_w, i32_w]; rw [c10b0]) | skip)
   have H' := Aside0.mk H; clear H
   go_wp2
   repeat (go_quiet (fail); try go_wp2)
   go_meet
   case rel => exact ⟨_, ((a0_0 == 8)), Z2, H', ⟨Z14⟩, ⟨(Z15 BK488)⟩, ⟨Z90⟩⟩
  case rest =>
   clear HC5; (try clear c1); (try clear p2); (try clear c3); (try clear c10); (try clear c10b0); (try clear c10b1); (try clear hcz7); (try clear hcz9); obtain ⟨kq, x12_4, rfl, HA, HJ4, BK488, HB⟩ := hcut
   cases kq with
   | zero => exact absurd HA.out (by simp [spec_ItemText.j0])
   | succ kj4 =>
    have H := HA.out; clear HA; simp only [spec_ItemText.j0] at H; by_cases c11 : x12_4 = true
    ·subst c11; replace H := Yt H; by_cases c12 : a0_3 = true
     ·subst c12; replace H := Yt H; replace H := Yg H; obtain ⟨c13, H⟩ := H; have c13b0 := eq_true c13; have c13b1 := decide_eq_true c13
      try have c13b2 : (9223372036854775807 < t490.size + 1) = False := eq_false (Nat.not_lt.2 c13)
      replace H := Yd H; obtain ⟨t491, A14, H⟩ := H; (try dsimp only at H); replace H := Yg H; obtain ⟨c15, H⟩ := H; have c15b0 := eq_true c15; have c15b1 := decide_eq_true c15
      try have c15b2 : (9223372036854775807 < (t490 ++ (⟨#[36]⟩ : ByteArray)).size + t491.size) = False := eq_false (Nat.not_lt.2 c15)
      try (have c15b3 := c15; simp only [ByteArray.size_append] at c15b3; replace c15b3 := eq_true c15b3)
      try (have c15b4 := c15b2; simp only [ByteArray.size_append] at c15b4; (try rw [show (⟨#[36]⟩ : ByteArray).size = 1 from rfl] at c15b4))
      obtain rfl := Option.some.inj H; have hcz16 := Yb5 BK488.out
      go_wp2_with (first | (go_at_call 59; (with_reducible refine (spec_HexText.calls kj4 ((a0_2) % 4294967296) t491 _ A14.out).mono ?_); rintro e w' ⟨rfl, ⟨nd, rfl⟩⟩; (try first | exact ⟨rfl, _, World.drewN_drewN _ _ _⟩ | exact ⟨rfl, _, Eq.trans (World.drewN_drewN _ _ _) (congrArg (World.drewN _) (Nat.add_assoc _ _ _))⟩)))
      repeat (go_quiet (first | (go_at_call 59; (with_reducible refine (spec_HexText.calls kj4 ((a0_2) % 4294967296) t491 _ A14.out).mono ?_); rintro e w' ⟨rfl, ⟨nd, rfl⟩⟩; (try first | exact ⟨rfl, _, World.drewN_drewN _ _ _⟩ | exact ⟨rfl, _, Eq.trans (World.drewN_drewN _ _ _) (congrArg (World.drewN _) (Nat.add_assoc _ _ _))⟩))); try go_wp2_with (first | (go_at_call 59; (with_reducible refine (spec_HexText.calls kj4 ((a0_2) % 4294967296) t491 _ A14.out).mono ?_); rintro e w' ⟨rfl, ⟨nd, rfl⟩⟩; (try first | exact ⟨rfl, _, World.drewN_drewN _ _ _⟩ | exact ⟨rfl, _, Eq.trans (World.drewN_drewN _ _ _) (congrArg (World.drewN _) (Nat.add_assoc _ _ _))⟩))))
      go_ret
      exact ⟨Z91, Z90⟩
     replace c12 := Bool.eq_false_iff.mpr c12; subst c12; replace H := Yf H; replace H := Yg H; obtain ⟨c17, H⟩ := H; have c17b0 := eq_true c17; have c17b1 := decide_eq_true c17
     try have c17b2 : (9223372036854775807 < t490.size + 1) = False := eq_false (Nat.not_lt.2 c17)
     replace H := Yd H; obtain ⟨t492, A18, H⟩ := H; (try dsimp only at H); replace H := Yg H; obtain ⟨c19, H⟩ := H; have c19b0 := eq_true c19; have c19b1 := decide_eq_true c19
     try have c19b2 : (9223372036854775807 < (t490 ++ (⟨#[35]⟩ : ByteArray)).size + t492.size) = False := eq_false (Nat.not_lt.2 c19)
     try (have c19b3 := c19; simp only [ByteArray.size_append] at c19b3; replace c19b3 := eq_true c19b3)
     try (have c19b4 := c19b2; simp only [ByteArray.size_append] at c19b4; (try rw [show (⟨#[35]⟩ : ByteArray).size = 1 from rfl] at c19b4))
     obtain rfl := Option.some.inj H; have hcz20 := Yb5 BK488.out
     go_wp2_with (first | (go_at_call 60; (with_reducible refine (spec_DecText.calls kj4 (wrap64 (a0_2)) t492 _ A18.out).mono ?_); rintro e w' ⟨rfl, ⟨nd, rfl⟩⟩; (try first | exact ⟨rfl, _, World.drewN_drewN _ _ _⟩ | exact ⟨rfl, _, Eq.trans (World.drewN_drewN _ _ _) (congrArg (World.drewN _) (Nat.add_assoc _ _ _))⟩)))
     repeat (go_quiet (first | (go_at_call 60; (with_reducible refine (spec_DecText.calls kj4 (wrap64 (a0_2)) t492 _ A18.out).mono ?_); rintro e w' ⟨rfl, ⟨nd, rfl⟩⟩; (try first | exact ⟨rfl, _, World.drewN_drewN _ _ _⟩ | exact ⟨rfl, _, Eq.trans (World.drewN_drewN _ _ _) (congrArg (World.drewN _) (Nat.add_assoc _ _ _))⟩))); try go_wp2_with (first | (go_at_call 60; (with_reducible refine (spec_DecText.calls kj4 (wrap64 (a0_2)) t492 _ A18.out).mono ?_); rintro e w' ⟨rfl, ⟨nd, rfl⟩⟩; (try first | exact ⟨rfl, _, World.drewN_drewN _ _ _⟩ | exact ⟨rfl, _, Eq.trans (World.drewN_drewN _ _ _) (congrArg (World.drewN _) (Nat.add_assoc _ _ _))⟩))))
     go_ret
     exact ⟨Z91, Z90⟩
    replace c11 := Bool.eq_false_iff.mpr c11; subst c11; replace H := Yf H; replace H := Yi H; rcases H with ⟨c21, H⟩ | ⟨c21, H⟩
    ·obtain ⟨c21b0, c21b1⟩ := Ye c21; clear c21; replace H := Yg H; obtain ⟨c22, H⟩ := H; have c22b0 := eq_true c22; have c22b1 := decide_eq_true c22
     try have c22b2 : (9223372036854775807 < t490.size + a0_1.size) = False := eq_false (Nat.not_lt.2 c22)
     replace H := Yg H; obtain ⟨c23, H⟩ := H; have c23b0 := eq_true c23; have c23b1 := decide_eq_true c23
     try have c23b2 : (9223372036854775807 < (t490 ++ a0_1).size + 1) = False := eq_false (Nat.not_lt.2 c23)
     try (have c23b3 := c23; simp only [ByteArray.size_append] at c23b3; replace c23b3 := eq_true c23b3)
     try (have c23b4 := c23b2; simp only [ByteArray.size_append] at c23b4)
     replace H := Yd H; obtain ⟨t493, A24, H⟩ := H; (try dsimp only at H); replace H := Yg H; obtain ⟨c25, H⟩ := H; have c25b0 := eq_true c25; have c25b1 := decide_eq_true c25
     try have c25b2 : (9223372036854775807 < ((t490 ++ a0_1) ++ (⟨#[35]⟩ : ByteArray)).size + t493.size) = False := eq_false (Nat.not_lt.2 c25)
     try (have c25b3 := c25; simp only [ByteArray.size_append] at c25b3; replace c25b3 := eq_true c25b3)
     try (have c25b4 := c25b2; simp only [ByteArray.size_append] at c25b4; (try rw [show (⟨#[35]⟩ : ByteArray).size = 1 from rfl] at c25b4))
     obtain rfl := Option.some.inj H; have hcz26 := Yb5 BK488.out
     go_wp2_with (first | (go_at_call 60; (with_reducible refine (spec_DecText.calls kj4 (wrap64 (a0_2)) t493 _ A24.out).mono ?_); rintro e w' ⟨rfl, ⟨nd, rfl⟩⟩; (try first | exact ⟨rfl, _, World.drewN_drewN _ _ _⟩ | exact ⟨rfl, _, Eq.trans (World.drewN_drewN _ _ _) (congrArg (World.drewN _) (Nat.add_assoc _ _ _))⟩)))
     repeat (go_quiet (first | (go_at_call 60; (with_reducible refine (spec_DecText.calls kj4 (wrap64 (a0_2)) t493 _ A24.out).mono ?_); rintro e w' ⟨rfl, ⟨nd, rfl⟩⟩; (try first | exact ⟨rfl, _, World.drewN_drewN _ _ _⟩ | exact ⟨rfl, _, Eq.trans (World.drewN_drewN _ _ _) (congrArg (World.drewN _) (Nat.add_assoc _ _ _))⟩))); try go_wp2_with (first | (go_at_call 60; (with_reducible refine (spec_DecText.calls kj4 (wrap64 (a0_2)) t493 _ A24.out).mono ?_); rintro e w' ⟨rfl, ⟨nd, rfl⟩⟩; (try first | exact ⟨rfl, _, World.drewN_drewN _ _ _⟩ | exact ⟨rfl, _, Eq.trans (World.drewN_drewN _ _ _) (congrArg (World.drewN _) (Nat.add_assoc _ _ _))⟩))))
     go_ret
     exact ⟨Z91, Z90⟩
    obtain ⟨c21b0, c21b1⟩ := Yn c21; replace H := Yi H; rcases H with ⟨c27, H⟩ | ⟨c27, H⟩
    ·obtain ⟨c27b0, c27b1⟩ := Ye c27; clear c27; replace H := Yd H; obtain ⟨t494, A28, H⟩ := H; (try dsimp only at H); replace H := Yg H; obtain ⟨c29, H⟩ := H; have c29b0 := eq_true c29; have c29b1 := decide_eq_true c29
     try have c29b2 : (9223372036854775807 < t490.size + t494.size) = False := eq_false (Nat.not_lt.2 c29)
     obtain rfl := Option.some.inj H; have hcz30 := Yb5 BK488.out
     go_wp2_with (first | (go_at_call 59; (with_reducible refine (spec_HexText.calls kj4 a0_4 t494 _ A28.out).mono ?_); rintro e w' ⟨rfl, ⟨nd, rfl⟩⟩; (try first | exact ⟨rfl, _, World.drewN_drewN _ _ _⟩ | exact ⟨rfl, _, Eq.trans (World.drewN_drewN _ _ _) (congrArg (World.drewN _) (Nat.add_assoc _ _ _))⟩)))
     repeat (go_quiet (first | (go_at_call 59; (with_reducible refine (spec_HexText.calls kj4 a0_4 t494 _ A28.out).mono ?_); rintro e w' ⟨rfl, ⟨nd, rfl⟩⟩; (try first | exact ⟨rfl, _, World.drewN_drewN _ _ _⟩ | exact ⟨rfl, _, Eq.trans (World.drewN_drewN _ _ _) (congrArg (World.drewN _) (Nat.add_assoc _ _ _))⟩))); try go_wp2_with (first | (go_at_call 59; (with_reducible refine (spec_HexText.calls kj4 a0_4 t494 _ A28.out).mono ?_); rintro e w' ⟨rfl, ⟨nd, rfl⟩⟩; (try first | exact ⟨rfl, _, World.drewN_drewN _ _ _⟩ | exact ⟨rfl, _, Eq.trans (World.drewN_drewN _ _ _) (congrArg (World.drewN _) (Nat.add_assoc _ _ _))⟩))))
     go_ret
     exact ⟨Z91, Z90⟩
    obtain ⟨c27b0, c27b1⟩ := Yn c27; replace H := Yg H; obtain ⟨c31, H⟩ := H; have c31b0 := eq_true c31; have c31b1 := decide_eq_true c31
    try have c31b2 : (9223372036854775807 < t490.size + a0_1.size) = False := eq_false (Nat.not_lt.2 c31)
    obtain rfl := Option.some.inj H; have hcz32 := Yb5 BK488.out
    go_wp2
    repeat (go_quiet (fail); try go_wp2)
    go_ret
    exact ⟨Z91, Z90⟩
 replace c3 := Bool.eq_false_iff.mpr c3; subst c3; replace H := Yf H; obtain rfl := Option.some.inj H; go_enter Tryz.func31, Tryz.ntmps31
 go_wp2_with (first | ((with_reducible refine gate_dst (N := 1) rfl ?_); refine box_event (by rfl) (N := 1) (by rfl) (cs := #[.int .i64 a0_0, .string a0_1, .int .i32 a0_2, .bool a0_3, .int .u32 a0_4]) (t := 46) Z4 ?_; intro gb488 hg w33 hbox hb; have BK488 := Z (hbox); have GW488 := Z ((Z124 : w.heap.size ≤ gb488)); have GE488 := Z ((Z124 : w.heap.size ≤ gb488)); replace HB := Z (below_step Z90 hb); clear hb hbox hg; have hcz34 := Yb5 BK488.out) | (go_at_call 57; (with_reducible refine (spec_ItemOk.calls k a0_0 a0_1 a0_2 a0_3 a0_4 false _ A2.out).mono ?_); rintro e w35 ⟨rfl, hb⟩; replace BK488 := Z (Yk7 BK488 hb); replace HB := Z (below_step Z90 hb); (try clear hb); (try clear hb2); (try clear hk); (try clear hi)))
 repeat (go_quiet (first | ((with_reducible refine gate_dst (N := 1) rfl ?_); refine box_event (by rfl) (N := 1) (by rfl) (cs := #[.int .i64 a0_0, .string a0_1, .int .i32 a0_2, .bool a0_3, .int .u32 a0_4]) (t := 46) Z4 ?_; intro gb488 hg w33 hbox hb; have BK488 := Z (hbox); have GW488 := Z ((Z124 : w.heap.size ≤ gb488)); have GE488 := Z ((Z124 : w.heap.size ≤ gb488)); replace HB := Z (below_step Z90 hb); clear hb hbox hg; have hcz34 := Yb5 BK488.out) | (go_at_call 57; (with_reducible refine (spec_ItemOk.calls k a0_0 a0_1 a0_2 a0_3 a0_4 false _ A2.out).mono ?_); rintro e w35 ⟨rfl, hb⟩; replace BK488 := Z (Yk7 BK488 hb); replace HB := Z (below_step Z90 hb); (try clear hb); (try clear hb2); (try clear hk); (try clear hi))); try go_wp2_with (first | ((with_reducible refine gate_dst (N := 1) rfl ?_); refine box_event (by rfl) (N := 1) (by rfl) (cs := #[.int .i64 a0_0, .string a0_1, .int .i32 a0_2, .bool a0_3, .int .u32 a0_4]) (t := 46) Z4 ?_; intro gb488 hg w33 hbox hb; have BK488 := Z (hbox); have GW488 := Z ((Z124 : w.heap.size ≤ gb488)); have GE488 := Z ((Z124 : w.heap.size ≤ gb488)); replace HB := Z (below_step Z90 hb); clear hb hbox hg; have hcz34 := Yb5 BK488.out) | (go_at_call 57; (with_reducible refine (spec_ItemOk.calls k a0_0 a0_1 a0_2 a0_3 a0_4 false _ A2.out).mono ?_); rintro e w35 ⟨rfl, hb⟩; replace BK488 := Z (Yk7 BK488 hb); replace HB := Z (below_step Z90 hb); (try clear hb); (try clear hb2); (try clear hk); (try clear hi))))
 go_ret
 exact ⟨Z91, Z90⟩

def spec_l01Digit.f (a0 : Int) : Option (Bool) := (spec_l01In.f (wrap64 (a0)) 48 57).bind fun t495 => (some t495)
theorem spec_l01Digit.calls (a0 : Int) (r : Bool) (w : World) (h : spec_l01Digit.f a0 = some r) :
  Calls Tryz.prog 116 #[.int .u8 a0] w fun e w' => e = .returned (.bool r) ∧ Drawn0 w w' := by
 unfold spec_l01Digit.f at h; have H := h; clear h; replace H := Yd H; obtain ⟨t495, A2, H⟩ := H; (try dsimp only at H); obtain rfl := Option.some.inj H; go_enter Tryz.func116, Tryz.ntmps116
 go_wp2_with (first | ((with_reducible refine gate_callee (f := 115) rfl ?_); refine goesL_ (some 5) rfl rfl Tryz.func115 Z0 rfl #[.int .i64 (wrap64 (a0)), .int .i64 48, .int .i64 57] rfl Z8 ?_; (with_reducible refine (spec_l01In.calls (wrap64 (a0)) 48 57 t495 _ A2.out).mono ?_); rintro e w' ⟨rfl, ⟨nd, rfl⟩⟩; refine ⟨_, rfl, ?_⟩))
 go_ret
 exact ⟨Z2, Z3⟩

def spec_ReadHex.l0 : Nat → ByteArray → Int → Int → Option (Int × Bool)
 | 0, _, _, _ => none
 | k + 1, x0, x4, x5 => if x5 < (x0.size : Int) then (if 0 ≤ x5 then ((spec_l01Digit.f (bt x0 x5)).bind fun t498 => (if t498 = true then (spec_ReadHex.l0 k x0 (wrap64 ((wrap64 ((wrap64 (16 * x4)) + (wrap64 (bt x0 x5)))) - 48)) (wrap64 (x5 + 1))) else ((spec_l01In.f (wrap64 (bt x0 x5)) 97 102).bind fun t499 => (if t499 = true then (spec_ReadHex.l0 k x0 (wrap64 ((wrap64 ((wrap64 (16 * x4)) + (wrap64 (bt x0 x5)))) - 87)) (wrap64 (x5 + 1))) else (some (0, false)))))) else (none)) else ((spec_HexText.f k ((x4) % 4294967296)).bind fun t497 => (if t497.toList = x0.toList then (some ((x4) % 4294967296, true)) else (some (0, false))))
def spec_ReadHex.f (k : Nat) (a0 : ByteArray) : Option (Int × Bool) := (spec_l01In.f (a0.size : Int) 1 8).bind fun t496 => (if t496 = true then (spec_ReadHex.l0 k a0 0 0) else (some (0, false)))
theorem spec_ReadHex.calls (k : Nat) (a0 : ByteArray) (r1 : Int) (r2 : Bool) (w : World) (h : spec_ReadHex.f k a0 = some (r1, r2)) :
  Calls Tryz.prog 95 #[.string a0] w fun e w' => e = .returned (.tuple #[.int .u32 r1, .bool r2]) ∧ Drawn0 w w' := by
 unfold spec_ReadHex.f at h; have H := h; clear h; replace H := Yd H; obtain ⟨t496, A2, H⟩ := H; (try dsimp only at H); by_cases c3 : t496 = true
 ·subst c3; replace H := Yt H; have H' := Aside0.mk H; clear H; go_enter Tryz.func95, Tryz.ntmps95
  go_wp2_with (first | ((with_reducible refine gate_callee (f := 115) rfl ?_); refine goesL_ (some 8) rfl rfl Tryz.func115 Z0 rfl #[.int .i64 (a0.size : Int), .int .i64 1, .int .i64 8] rfl Z8 ?_; (with_reducible refine (spec_l01In.calls (a0.size : Int) 1 8 true _ A2.out).mono ?_); rintro e w' ⟨rfl, ⟨nd, rfl⟩⟩; refine ⟨_, rfl, ?_⟩))
  go_loopg [4, 5] k (fun kq v4 v5 w' => ∃ (x4_1 : Int) (x5_1 : Int), v4 = .int .i64 x4_1 ∧ v5 = .int .i64 x5_1 ∧ Aside0 (spec_ReadHex.l0 kq a0 x4_1 x5_1 = some (r1, r2)) ∧ Aside0 (kq ≤ k) ∧ Drawn0 w w')
  case atStart => exact ⟨(0), (0), Z2, Z2, H', ⟨Nat.le_refl _⟩, Z3⟩
  case round =>
   clear H'; (try clear c1); (try clear p2); (try clear c3); obtain ⟨x4_1, x5_1, rfl, rfl, HA, HK1, ⟨m1, rfl⟩⟩ := hrel
   cases gk with
   | zero => exact absurd HA.out (by simp [spec_ReadHex.l0])
   | succ k1 =>
    have H := HA.out; clear HA; simp only [spec_ReadHex.l0] at H; replace H := Yi H; rcases H with ⟨c4, H⟩ | ⟨c4, H⟩
    ·have c4b0 := decide_eq_true c4; clear c4; replace H := Yg H; obtain ⟨c5, H⟩ := H; have c5b0 := decide_eq_true c5; clear c5; replace H := Yd H; obtain ⟨t498, A7, H⟩ := H; (try dsimp only at H); by_cases c8 : t498 = true
     ·subst c8; replace H := Yt H; have H' := Aside0.mk H; clear H; have p6 : 0 ≤ (x5_1 : Int) := of_decide_eq_true Z7; have q6 : x5_1 < (a0.size : Int) := of_decide_eq_true Z7; have hx6 := bt_at a0 x5_1; replace p6 := eq_true p6; replace q6 := eq_true q6
      go_wp2_with (first | ((with_reducible refine gate_callee (f := 116) rfl ?_); refine goesL_ (some 20) rfl rfl Tryz.func116 Z0 rfl #[.int .u8 (bt a0 x5_1)] rfl Z8 ?_; (with_reducible refine (spec_l01Digit.calls (bt a0 x5_1) true _ A7.out).mono ?_); rintro e w' ⟨rfl, ⟨nd, rfl⟩⟩; refine ⟨_, rfl, ?_⟩; have p9 : 0 ≤ (x5_1 : Int) := of_decide_eq_true Z7; have q9 : x5_1 < (a0.size : Int) := of_decide_eq_true Z7; have hx9 := bt_at a0 x5_1; replace p9 := eq_true p9; replace q9 := eq_true q9))
      go_roundg k1
      case measure => have := HK1.out; omega
      case rel => exact ⟨(wrap64 ((wrap64 ((wrap64 (16 * x4_1)) + (wrap64 (bt a0 x5_1)))) - 48)), (wrap64 (x5_1 + 1)), Z2, Z2, H', ⟨Z9⟩, Z3⟩
     replace c8 := Bool.eq_false_iff.mpr c8; subst c8; replace H := Yf H; replace H := Yd H; obtain ⟨t499, A11, H⟩ := H; (try dsimp only at H); by_cases c12 : t499 = true
     ·subst c12; replace H := Yt H; have H' := Aside0.mk H; clear H; have p6 : 0 ≤ (x5_1 : Int) := of_decide_eq_true Z7; have q6 : x5_1 < (a0.size : Int) := of_decide_eq_true Z7; have hx6 := bt_at a0 x5_1; replace p6 := eq_true p6; replace q6 := eq_true q6
      go_wp2_with (first | ((with_reducible refine gate_callee (f := 116) rfl ?_); refine goesL_ (some 20) rfl rfl Tryz.func116 Z0 rfl #[.int .u8 (bt a0 x5_1)] rfl Z8 ?_; (with_reducible refine (spec_l01Digit.calls (bt a0 x5_1) false _ A7.out).mono ?_); rintro e w' ⟨rfl, ⟨nd, rfl⟩⟩; refine ⟨_, rfl, ?_⟩; have p10 : 0 ≤ (x5_1 : Int) := of_decide_eq_true Z7; have q10 : x5_1 < (a0.size : Int) := of_decide_eq_true Z7; have hx10 := bt_at a0 x5_1; replace p10 := eq_true p10; replace q10 := eq_true q10) | ((with_reducible refine gate_callee (f := 115) rfl ?_); refine goesL_ (some 34) rfl rfl Tryz.func115 Z0 rfl #[.int .i64 (wrap64 (bt a0 x5_1)), .int .i64 97, .int .i64 102] rfl Z8 ?_; (with_reducible refine (spec_l01In.calls (wrap64 (bt a0 x5_1)) 97 102 true _ A11.out).mono ?_); rintro e w' ⟨rfl, ⟨nd, rfl⟩⟩; refine ⟨_, rfl, ?_⟩; have p13 : 0 ≤ (x5_1 : Int) := of_decide_eq_true Z7; have q13 : x5_1 < (a0.size : Int) := of_decide_eq_true Z7; have hx13 := bt_at a0 x5_1; replace p13 := eq_true p13; replace q13 := eq_true q13))
      go_roundg k1
      case measure => have := HK1.out; omega
      case rel => exact ⟨(wrap64 ((wrap64 ((wrap64 (16 * x4_1)) + (wrap64 (bt a0 x5_1)))) - 87)), (wrap64 (x5_1 + 1)), Z2, Z2, H', ⟨Z9⟩, Z3⟩
     replace c12 := Bool.eq_false_iff.mpr c12; subst c12; replace H := Yf H; simp only [Option.some.injEq, Prod.mk.injEq] at H; obtain ⟨rfl, rfl⟩ := H; have p6 : 0 ≤ (x5_1 : Int) := of_decide_eq_true Z7; have q6 : x5_1 < (a0.size : Int) := of_decide_eq_true Z7; have hx6 := bt_at a0 x5_1; replace p6 := eq_true p6; replace q6 := eq_true q6
     go_wp2_with (first | ((with_reducible refine gate_callee (f := 116) rfl ?_); refine goesL_ (some 20) rfl rfl Tryz.func116 Z0 rfl #[.int .u8 (bt a0 x5_1)] rfl Z8 ?_; (with_reducible refine (spec_l01Digit.calls (bt a0 x5_1) false _ A7.out).mono ?_); rintro e w' ⟨rfl, ⟨nd, rfl⟩⟩; refine ⟨_, rfl, ?_⟩; have p10 : 0 ≤ (x5_1 : Int) := of_decide_eq_true Z7; have q10 : x5_1 < (a0.size : Int) := of_decide_eq_true Z7; have hx10 := bt_at a0 x5_1; replace p10 := eq_true p10; replace q10 := eq_true q10) | ((with_reducible refine gate_callee (f := 115) rfl ?_); refine goesL_ (some 34) rfl rfl Tryz.func115 Z0 rfl #[.int .i64 (wrap64 (bt a0 x5_1)), .int .i64 97, .int .i64 102] rfl Z8 ?_; (with_reducible refine (spec_l01In.calls (wrap64 (bt a0 x5_1)) 97 102 false _ A11.out).mono ?_); rintro e w' ⟨rfl, ⟨nd, rfl⟩⟩; refine ⟨_, rfl, ?_⟩))
     go_ret2
     exact ⟨Z2, Z3⟩
    have c4b0 := decide_eq_false c4; clear c4; replace H := Yd H; obtain ⟨t497, A14, H⟩ := H; (try dsimp only at H); replace H := Yi H; rcases H with ⟨c15, H⟩ | ⟨c15, H⟩
    ·obtain ⟨c15b0, c15b1⟩ := Ye c15; clear c15; simp only [Option.some.injEq, Prod.mk.injEq] at H; obtain ⟨rfl, rfl⟩ := H
     go_wp2_with (first | ((with_reducible refine gate_callee (f := 59) rfl ?_); refine goesL_ (some 45) rfl rfl Tryz.func59 Z0 rfl #[.int .u32 ((x4_1) % 4294967296)] rfl Z8 ?_; (with_reducible refine (spec_HexText.calls k1 ((x4_1) % 4294967296) t497 _ A14.out).mono ?_); rintro e w' ⟨rfl, ⟨nd, rfl⟩⟩; refine ⟨_, rfl, ?_⟩))
     go_ret2
     exact ⟨Z2, Z3⟩
    obtain ⟨c15b0, c15b1⟩ := Yn c15; simp only [Option.some.injEq, Prod.mk.injEq] at H; obtain ⟨rfl, rfl⟩ := H
    go_wp2_with (first | ((with_reducible refine gate_callee (f := 59) rfl ?_); refine goesL_ (some 45) rfl rfl Tryz.func59 Z0 rfl #[.int .u32 ((x4_1) % 4294967296)] rfl Z8 ?_; (with_reducible refine (spec_HexText.calls k1 ((x4_1) % 4294967296) t497 _ A14.out).mono ?_); rintro e w' ⟨rfl, ⟨nd, rfl⟩⟩; refine ⟨_, rfl, ?_⟩))
    go_ret2
    exact ⟨Z2, Z3⟩
 replace c3 := Bool.eq_false_iff.mpr c3; subst c3; replace H := Yf H; simp only [Option.some.injEq, Prod.mk.injEq] at H; obtain ⟨rfl, rfl⟩ := H; go_enter Tryz.func95, Tryz.ntmps95
 go_wp2_with (first | ((with_reducible refine gate_callee (f := 115) rfl ?_); refine goesL_ (some 8) rfl rfl Tryz.func115 Z0 rfl #[.int .i64 (a0.size : Int), .int .i64 1, .int .i64 8] rfl Z8 ?_; (with_reducible refine (spec_l01In.calls (a0.size : Int) 1 8 false _ A2.out).mono ?_); rintro e w' ⟨rfl, ⟨nd, rfl⟩⟩; refine ⟨_, rfl, ?_⟩))
 go_ret2
 exact ⟨Z2, Z3⟩

mutual
def spec_ReadDec.l0 : Nat → ByteArray → Int → Int → Option (Int × Bool)
 | 0, _, _, _ => none
 | k + 1, x0, x4, x5 => if x5 < (x0.size : Int) then (if x5 = 0 then (if 0 ≤ x5 then (spec_ReadDec.j1 k x0 x4 x5 ((bt x0 x5) == 45)) else (none)) else (spec_ReadDec.j1 k x0 x4 x5 false)) else (if 0 < (x0.size : Int) then (if (bt x0 0) = 45 then (spec_ReadDec.j2 k x0 (wrap64 (-x4))) else (spec_ReadDec.j2 k x0 x4)) else (none))
def spec_ReadDec.j1 : Nat → ByteArray → Int → Int → Bool → Option (Int × Bool)
 | 0, _, _, _, _ => none
 | k + 1, x0, x4, x5, x23 => if x23 = true then (spec_ReadDec.l0 k x0 x4 (wrap64 (x5 + 1))) else (if 0 ≤ x5 then (if x5 < (x0.size : Int) then ((spec_l01Digit.f (bt x0 x5)).bind fun t501 => (if t501 = true then (spec_ReadDec.l0 k x0 (wrap64 ((wrap64 ((wrap64 (10 * x4)) + (wrap64 (bt x0 x5)))) - 48)) (wrap64 (x5 + 1))) else (some (0, false)))) else (none)) else (none))
def spec_ReadDec.j2 : Nat → ByteArray → Int → Option (Int × Bool)
 | 0, _, _ => none
 | k + 1, x0, x4 => (spec_l01In.f x4 (-9999999999) 9999999999).bind fun t502 => (if t502 = true then ((spec_DecText.f k x4).bind fun t503 => (if t503.toList = x0.toList then (some (x4, true)) else (some (0, false)))) else (some (0, false)))
end
def spec_ReadDec.f (k : Nat) (a0 : ByteArray) : Option (Int × Bool) := (spec_l01In.f (a0.size : Int) 1 11).bind fun t500 => (if t500 = true then (spec_ReadDec.l0 k a0 0 0) else (some (0, false)))
theorem spec_ReadDec.calls (k : Nat) (a0 : ByteArray) (r1 : Int) (r2 : Bool) (w : World) (h : spec_ReadDec.f k a0 = some (r1, r2)) :
  Calls Tryz.prog 117 #[.string a0] w fun e w' => e = .returned (.tuple #[.int .i64 r1, .bool r2]) ∧ Drawn0 w w' := by
 unfold spec_ReadDec.f at h; have H := h; clear h; replace H := Yd H; obtain ⟨t500, A2, H⟩ := H; (try dsimp only at H); by_cases c3 : t500 = true
 ·subst c3; replace H := Yt H; have H' := Aside0.mk H; clear H; go_enter Tryz.func117, Tryz.ntmps117
  go_wp2_with (first | ((with_reducible refine gate_callee (f := 115) rfl ?_); refine goesL_ (some 8) rfl rfl Tryz.func115 Z0 rfl #[.int .i64 (a0.size : Int), .int .i64 1, .int .i64 11] rfl Z8 ?_; (with_reducible refine (spec_l01In.calls (a0.size : Int) 1 11 true _ A2.out).mono ?_); rintro e w' ⟨rfl, ⟨nd, rfl⟩⟩; refine ⟨_, rfl, ?_⟩))
  go_loopg [4, 5] k (fun kq v4 v5 w' => ∃ (x4_1 : Int) (x5_1 : Int), v4 = .int .i64 x4_1 ∧ v5 = .int .i64 x5_1 ∧ Aside0 (spec_ReadDec.l0 kq a0 x4_1 x5_1 = some (r1, r2)) ∧ Aside0 (kq ≤ k) ∧ Drawn0 w w')
  case atStart => exact ⟨(0), (0), Z2, Z2, H', ⟨Nat.le_refl _⟩, Z3⟩
  case round =>
   clear H'; (try clear c1); (try clear p2); (try clear c3); obtain ⟨x4_1, x5_1, rfl, rfl, HA, HK1, ⟨m1, rfl⟩⟩ := hrel
   cases gk with
   | zero => exact absurd HA.out (by simp [spec_ReadDec.l0])
   | succ k1 =>
    have H := HA.out; clear HA; simp only [spec_ReadDec.l0] at H; replace H := Yi H; rcases H with ⟨c4, H⟩ | ⟨c4, H⟩
    ·have c4b0 := decide_eq_true c4; clear c4; have HC5 := Aside0.mk H; clear H
     go_upto_region 7 with (fail)
     go_cut [23] (fun v23 wc => ∃ (kq : Nat) (x23_4 : Bool), v23 = .bool x23_4 ∧ Aside0 (spec_ReadDec.j1 kq a0 x4_1 x5_1 x23_4 = some (r1, r2)) ∧ Aside0 (kq ≤ k1) ∧ Drawn0 w wc)
     case first =>
      have H := HC5.out; clear HC5; replace H := Yi H; rcases H with ⟨c6, H⟩ | ⟨c6, H⟩
      ·obtain ⟨c6b0, c6b1⟩ := Ye c6; clear c6
       (first | rw [c6b0] | (simp only [i64_w, i32_w]; rw [c6b0]) | skip)
       replace H := Yg H; obtain ⟨c7, H⟩ := H; have c7b0 := decide_eq_true c7; clear c7; have H' := Aside0.mk H; clear H; have p8 : 0 ≤ (x5_1 : Int) := of_decide_eq_true Z7; have q8 : x5_1 < (a0.size : Int) := of_decide_eq_true Z7; have hx8 := bt_at a0 x5_1; replace p8 := eq_true p8; replace q8 := eq_true q8
       go_wp2
       go_meet
       case rel => exact ⟨_, (((bt a0 x5_1) == 45)), Z2, H', ⟨Z48⟩, Z3⟩
      obtain ⟨c6b0, c6b1⟩ := Yn c6
      (first | rw [c6b0] | (simp only [i64_w, i32_w]; rw [c6b0]) | skip)
      have H' := Aside0.mk H; clear H
      go_wp2
      go_meet
      case rel => exact ⟨_, (false), Z2, H', ⟨Z48⟩, Z3⟩
     case rest =>
      clear HC5; (try clear c1); (try clear p2); (try clear c3); (try clear c4); (try clear c4b0); (try clear c6); (try clear c6b0); (try clear c6b1); (try clear c7); (try clear c7b0); (try clear p8); (try clear q8); (try clear hx8); (try clear p2); (try clear p8); (try clear q8); obtain ⟨kq, x23_4, rfl, HA, HJ4, ⟨mc4, rfl⟩⟩ := hcut
      cases kq with
      | zero => exact absurd HA.out (by simp [spec_ReadDec.j1])
      | succ kj4 =>
       have H := HA.out; clear HA; simp only [spec_ReadDec.j1] at H; by_cases c9 : x23_4 = true
       ·subst c9; replace H := Yt H; have H' := Aside0.mk H; clear H
        go_wp2
        go_roundg kj4
        case measure => have := HK1.out; have := HJ4.out; omega
        case rel => exact ⟨(x4_1), (wrap64 (x5_1 + 1)), Z2, Z2, H', ⟨Z52⟩, Z3⟩
       replace c9 := Bool.eq_false_iff.mpr c9; subst c9; replace H := Yf H; replace H := Yg H; obtain ⟨c10, H⟩ := H; have c10b0 := decide_eq_true c10; clear c10; replace H := Yg H; obtain ⟨c11, H⟩ := H; have c11b0 := decide_eq_true c11; clear c11; replace H := Yd H; obtain ⟨t501, A13, H⟩ := H; (try dsimp only at H); by_cases c14 : t501 = true
       ·subst c14; replace H := Yt H; have H' := Aside0.mk H; clear H; have p12 : 0 ≤ (x5_1 : Int) := of_decide_eq_true Z7; have q12 : x5_1 < (a0.size : Int) := of_decide_eq_true Z7; have hx12 := bt_at a0 x5_1; replace p12 := eq_true p12; replace q12 := eq_true q12
        go_wp2_with (first | ((with_reducible refine gate_callee (f := 116) rfl ?_); refine goesL_ (some 27) rfl rfl Tryz.func116 Z0 rfl #[.int .u8 (bt a0 x5_1)] rfl Z8 ?_; (with_reducible refine (spec_l01Digit.calls (bt a0 x5_1) true _ A13.out).mono ?_); rintro e w' ⟨rfl, ⟨nd, rfl⟩⟩; refine ⟨_, rfl, ?_⟩; have p15 : 0 ≤ (x5_1 : Int) := of_decide_eq_true Z7; have q15 : x5_1 < (a0.size : Int) := of_decide_eq_true Z7; have hx15 := bt_at a0 x5_1; replace p15 := eq_true p15; replace q15 := eq_true q15))
        go_roundg kj4
        case measure => have := HK1.out; have := HJ4.out; omega
        case rel => exact ⟨(wrap64 ((wrap64 ((wrap64 (10 * x4_1)) + (wrap64 (bt a0 x5_1)))) - 48)), (wrap64 (x5_1 + 1)), Z2, Z2, H', ⟨Z52⟩, Z3⟩
       replace c14 := Bool.eq_false_iff.mpr c14; subst c14; replace H := Yf H; simp only [Option.some.injEq, Prod.mk.injEq] at H; obtain ⟨rfl, rfl⟩ := H; have p12 : 0 ≤ (x5_1 : Int) := of_decide_eq_true Z7; have q12 : x5_1 < (a0.size : Int) := of_decide_eq_true Z7; have hx12 := bt_at a0 x5_1; replace p12 := eq_true p12; replace q12 := eq_true q12
       go_wp2_with (first | ((with_reducible refine gate_callee (f := 116) rfl ?_); refine goesL_ (some 27) rfl rfl Tryz.func116 Z0 rfl #[.int .u8 (bt a0 x5_1)] rfl Z8 ?_; (with_reducible refine (spec_l01Digit.calls (bt a0 x5_1) false _ A13.out).mono ?_); rintro e w' ⟨rfl, ⟨nd, rfl⟩⟩; refine ⟨_, rfl, ?_⟩))
       go_ret2
       exact ⟨Z2, Z3⟩
    have c4b0 := decide_eq_false c4; clear c4; replace H := Yg H; obtain ⟨c16, H⟩ := H; have c16b0 := decide_eq_true c16; have c16b1 : decide (0 < a0.size) = true := decide_eq_true (by omega); clear c16; have HC18 := Aside0.mk H; clear H; have p17 : 0 ≤ (0 : Int) := (by omega); have q17 : 0 < a0.size := (by have : (0 : Int) < (a0.size : Int) := of_decide_eq_true Z7; omega); have hx17 : ∀ h : 0 < a0.size, ((a0[0]'h).toNat : Int) = bt a0 0 := bt_at a0 0; clear p17; have qi17 : (0 < (a0.size : Int)) = True := eq_true (of_decide_eq_true Z7); replace q17 := eq_true q17
    go_upto_if 39 with (fail)
    go_cut [4] (fun v4 wc => ∃ (kq : Nat) (x4_17 : Int), v4 = .int .i64 x4_17 ∧ Aside0 (spec_ReadDec.j2 kq a0 x4_17 = some (r1, r2)) ∧ Aside0 (kq ≤ k1) ∧ Drawn0 w wc)
    case first =>
     have H := HC18.out; clear HC18; replace H := Yi H; rcases H with ⟨c19, H⟩ | ⟨c19, H⟩
     ·obtain ⟨c19b0, c19b1⟩ := Ye c19; clear c19
      (first | rw [c19b0] | (simp only [i64_w, i32_w]; rw [c19b0]) | skip)
      have H' := Aside0.mk H; clear H
      go_wp2
      go_meet
      case rel => exact ⟨_, (wrap64 (-x4_1)), Z2, H', ⟨Z48⟩, Z3⟩
     obtain ⟨c19b0, c19b1⟩ := Yn c19
     (first | rw [c19b0] | (simp only [i64_w, i32_w]; rw [c19b0]) | skip)
     have H' := Aside0.mk H; clear H
     go_wp2
     go_meet
     case rel => exact ⟨_, (x4_1), Z2, H', ⟨Z48⟩, Z3⟩
    case rest =>
     clear HC18; (try clear c1); (try clear p1); (try clear q1); (try clear hx1); (try clear qi1); (try clear p2); (try clear c3); (try clear c4); (try clear c4b0); (try clear c6); (try clear c6b0); (try clear c6b1); (try clear p6); (try clear c7); (try clear c7b0); (try clear p8); (try clear q8); (try clear hx8); (try clear c9); (try clear c10); (try clear c10b0); (try clear c11); (try clear c11b0); (try clear p12); (try clear q12); (try clear hx12); (try clear c14); (try clear p15); (try clear q15); (try clear hx15); (try clear c16); (try clear c16b0); (try clear c16b1); (try clear p17); (try clear q17); (try clear hx17); (try clear qi17); (try clear c19); (try clear c19b0); (try clear c19b1); (try clear p12); (try clear p15); (try clear p17); (try clear p2); (try clear p8); (try clear q12); (try clear q15); (try clear q17); (try clear q8); obtain ⟨kq, x4_17, rfl, HA, HJ17, ⟨mc17, rfl⟩⟩ := hcut
     cases kq with
     | zero => exact absurd HA.out (by simp [spec_ReadDec.j2])
     | succ kj17 =>
      have H := HA.out; clear HA; simp only [spec_ReadDec.j2] at H; replace H := Yd H; obtain ⟨t502, A20, H⟩ := H; (try dsimp only at H); by_cases c21 : t502 = true
      ·subst c21; replace H := Yt H; replace H := Yd H; obtain ⟨t503, A22, H⟩ := H; (try dsimp only at H); replace H := Yi H; rcases H with ⟨c23, H⟩ | ⟨c23, H⟩
       ·obtain ⟨c23b0, c23b1⟩ := Ye c23; clear c23; simp only [Option.some.injEq, Prod.mk.injEq] at H; obtain ⟨rfl, rfl⟩ := H
        go_wp2_with (first | ((with_reducible refine gate_callee (f := 115) rfl ?_); refine goesL_ (some 43) rfl rfl Tryz.func115 Z0 rfl #[.int .i64 x4_17, .int .i64 (-9999999999), .int .i64 9999999999] rfl Z8 ?_; (with_reducible refine (spec_l01In.calls x4_17 (-9999999999) 9999999999 true _ A20.out).mono ?_); rintro e w' ⟨rfl, ⟨nd, rfl⟩⟩; refine ⟨_, rfl, ?_⟩) | (go_at_call 60; (with_reducible refine (spec_DecText.calls kj17 x4_17 t503 _ A22.out).mono ?_); rintro e w' ⟨rfl, ⟨nd, rfl⟩⟩))
        go_ret2
        exact ⟨Z2, Z3⟩
       obtain ⟨c23b0, c23b1⟩ := Yn c23; simp only [Option.some.injEq, Prod.mk.injEq] at H; obtain ⟨rfl, rfl⟩ := H
       go_wp2_with (first | ((with_reducible refine gate_callee (f := 115) rfl ?_); refine goesL_ (some 43) rfl rfl Tryz.func115 Z0 rfl #[.int .i64 x4_17, .int .i64 (-9999999999), .int .i64 9999999999] rfl Z8 ?_; (with_reducible refine (spec_l01In.calls x4_17 (-9999999999) 9999999999 true _ A20.out).mono ?_); rintro e w' ⟨rfl, ⟨nd, rfl⟩⟩; refine ⟨_, rfl, ?_⟩) | (go_at_call 60; (with_reducible refine (spec_DecText.calls kj17 x4_17 t503 _ A22.out).mono ?_); rintro e w' ⟨rfl, ⟨nd, rfl⟩⟩))
       go_ret2
       exact ⟨Z2, Z3⟩
      replace c21 := Bool.eq_false_iff.mpr c21; subst c21; replace H := Yf H; simp only [Option.some.injEq, Prod.mk.injEq] at H; obtain ⟨rfl, rfl⟩ := H
      go_wp2_with (first | ((with_reducible refine gate_callee (f := 115) rfl ?_); refine goesL_ (some 43) rfl rfl Tryz.func115 Z0 rfl #[.int .i64 x4_17, .int .i64 (-9999999999), .int .i64 9999999999] rfl Z8 ?_; (with_reducible refine (spec_l01In.calls x4_17 (-9999999999) 9999999999 false _ A20.out).mono ?_); rintro e w' ⟨rfl, ⟨nd, rfl⟩⟩; refine ⟨_, rfl, ?_⟩))
      go_ret2
      exact ⟨Z2, Z3⟩
 replace c3 := Bool.eq_false_iff.mpr c3; subst c3; replace H := Yf H; simp only [Option.some.injEq, Prod.mk.injEq] at H; obtain ⟨rfl, rfl⟩ := H; go_enter Tryz.func117, Tryz.ntmps117
 go_wp2_with (first | ((with_reducible refine gate_callee (f := 115) rfl ?_); refine goesL_ (some 8) rfl rfl Tryz.func115 Z0 rfl #[.int .i64 (a0.size : Int), .int .i64 1, .int .i64 11] rfl Z8 ?_; (with_reducible refine (spec_l01In.calls (a0.size : Int) 1 11 false _ A2.out).mono ?_); rintro e w' ⟨rfl, ⟨nd, rfl⟩⟩; refine ⟨_, rfl, ?_⟩))
 go_ret2
 exact ⟨Z2, Z3⟩

def spec_l06Dec.f (k : Nat) (a0 : ByteArray) : Option (Int × Bool) := (spec_ReadDec.f k a0).bind fun bt504 => (if bt504.2 = true then ((spec_l01In.f bt504.1 (-2147483648) 2147483647).bind fun t506 => (if t506 = true then (some (wrap32 (bt504.1), true)) else (some (0, false)))) else (some (0, false)))
theorem spec_l06Dec.calls (k : Nat) (a0 : ByteArray) (r1 : Int) (r2 : Bool) (w : World) (h : spec_l06Dec.f k a0 = some (r1, r2)) :
  Calls Tryz.prog 96 #[.string a0] w fun e w' => e = .returned (.tuple #[.int .i32 r1, .bool r2]) ∧ Drawn0 w w' := by
 unfold spec_l06Dec.f at h; have H := h; clear h; replace H := Yd H; obtain ⟨⟨t504, t505⟩, A2, H⟩ := H; (try dsimp only at H); by_cases c3 : t505 = true
 ·subst c3; replace H := Yt H; replace H := Yd H; obtain ⟨t506, A4, H⟩ := H; (try dsimp only at H); by_cases c5 : t506 = true
  ·subst c5; replace H := Yt H; simp only [Option.some.injEq, Prod.mk.injEq] at H; obtain ⟨rfl, rfl⟩ := H; go_enter Tryz.func96, Tryz.ntmps96
   go_wp2_with (first | ((with_reducible refine gate_callee (f := 117) rfl ?_); refine goesL_ (some 8) rfl rfl Tryz.func117 Z0 rfl #[.string a0] rfl Z8 ?_; (with_reducible refine (spec_ReadDec.calls k a0 t504 true _ A2.out).mono ?_); rintro e w' ⟨rfl, ⟨nd, rfl⟩⟩; refine ⟨_, rfl, ?_⟩) | (go_at_call 115; (with_reducible refine (spec_l01In.calls t504 (-2147483648) 2147483647 true _ A4.out).mono ?_); rintro e w' ⟨rfl, ⟨nd, rfl⟩⟩))
   go_ret2
   exact ⟨Z2, Z3⟩
  replace c5 := Bool.eq_false_iff.mpr c5; subst c5; replace H := Yf H; simp only [Option.some.injEq, Prod.mk.injEq] at H; obtain ⟨rfl, rfl⟩ := H; go_enter Tryz.func96, Tryz.ntmps96
  go_wp2_with (first | ((with_reducible refine gate_callee (f := 117) rfl ?_); refine goesL_ (some 8) rfl rfl Tryz.func117 Z0 rfl #[.string a0] rfl Z8 ?_; (with_reducible refine (spec_ReadDec.calls k a0 t504 true _ A2.out).mono ?_); rintro e w' ⟨rfl, ⟨nd, rfl⟩⟩; refine ⟨_, rfl, ?_⟩) | (go_at_call 115; (with_reducible refine (spec_l01In.calls t504 (-2147483648) 2147483647 false _ A4.out).mono ?_); rintro e w' ⟨rfl, ⟨nd, rfl⟩⟩))
  go_ret2
  exact ⟨Z2, Z3⟩
 replace c3 := Bool.eq_false_iff.mpr c3; subst c3; replace H := Yf H; simp only [Option.some.injEq, Prod.mk.injEq] at H; obtain ⟨rfl, rfl⟩ := H; go_enter Tryz.func96, Tryz.ntmps96
 go_wp2_with (first | ((with_reducible refine gate_callee (f := 117) rfl ?_); refine goesL_ (some 8) rfl rfl Tryz.func117 Z0 rfl #[.string a0] rfl Z8 ?_; (with_reducible refine (spec_ReadDec.calls k a0 t504 false _ A2.out).mono ?_); rintro e w' ⟨rfl, ⟨nd, rfl⟩⟩; refine ⟨_, rfl, ?_⟩))
 go_ret2
 exact ⟨Z2, Z3⟩

mutual
def spec_l06Tail.j0 : Nat → ByteArray → Bool → Int → Bool → Int → ByteArray → Int → Bool → Int → Option (Int × ByteArray × Int × Bool × Int × Bool)
 | 0, _, _, _, _, _, _, _, _, _ => none
 | k + 1, x1, x7, x13, x24, x509000, x509001, x509002, x509003, x509004 => if x24 = true then (if 0 < (x1.size : Int) then (if (bt x1 0) = 36 then (if 1 ≤ (x1.size : Int) then ((spec_ReadHex.f k (x1.extract 1 x1.size)).bind fun bt511 => (some (x509000, x509001, wrap32 (bt511.1), true, x509004, bt511.2))) else (none)) else (if 1 ≤ (x1.size : Int) then ((spec_l06Dec.f k (x1.extract 1 x1.size)).bind fun bt513 => (some (x509000, x509001, bt513.1, x509003, x509004, bt513.2))) else (none))) else (none)) else (if x13 = 9 then (spec_l06Tail.l0 k x1 0 x509000 x509001 x509002 x509003 x509004) else (some (x509000, x1, x509002, x509003, x509004, x7)))
def spec_l06Tail.l0 : Nat → ByteArray → Int → Int → ByteArray → Int → Bool → Int → Option (Int × ByteArray × Int × Bool × Int × Bool)
 | 0, _, _, _, _, _, _, _ => none
 | k + 1, x1, x10, x509000, x509001, x509002, x509003, x509004 => if x10 < (x1.size : Int) then (if 0 ≤ x10 then (if (bt x1 x10) = 35 then (if x10 = (x1.size : Int) then (some (0, (⟨#[]⟩ : ByteArray), 0, false, 0, false)) else (if x10 ≤ (x1.size : Int) then (if 0 ≤ (wrap64 (x10 + 1)) then (if (wrap64 (x10 + 1)) ≤ (x1.size : Int) then ((spec_l06Dec.f k (x1.extract ((wrap64 (x10 + 1)) : Int).toNat x1.size)).bind fun bt515 => (some (x509000, x1.extract 0 (x10 : Int).toNat, bt515.1, x509003, x509004, bt515.2))) else (none)) else (none)) else (none))) else (spec_l06Tail.l0 k x1 (wrap64 (x10 + 1)) x509000 x509001 x509002 x509003 x509004)) else (none)) else (if x10 = (x1.size : Int) then (some (0, (⟨#[]⟩ : ByteArray), 0, false, 0, false)) else (if 0 ≤ x10 then (if x10 ≤ (x1.size : Int) then (if 0 ≤ (wrap64 (x10 + 1)) then (if (wrap64 (x10 + 1)) ≤ (x1.size : Int) then ((spec_l06Dec.f k (x1.extract ((wrap64 (x10 + 1)) : Int).toNat x1.size)).bind fun bt517 => (some (x509000, x1.extract 0 (x10 : Int).toNat, bt517.1, x509003, x509004, bt517.2))) else (none)) else (none)) else (none)) else (none)))
end
def spec_l06Tail.f (k : Nat) (a0 : Int) (a1 : ByteArray) : Option (Int × ByteArray × Int × Bool × Int × Bool) := if a0 = 0 then ((spec_ReadHex.f k a1).bind fun bt509 => (some (a0, (⟨#[]⟩ : ByteArray), 0, false, bt509.1, bt509.2))) else (if a0 = 7 then (spec_l06Tail.j0 k a1 true a0 (a0 == 7) a0 (⟨#[]⟩ : ByteArray) 0 false 0) else (spec_l06Tail.j0 k a1 true a0 (a0 == 8) a0 (⟨#[]⟩ : ByteArray) 0 false 0))
theorem spec_l06Tail.calls (k : Nat) (a0 : Int) (a1 : ByteArray) (r1 : Int) (r2 : ByteArray) (r3 : Int) (r4 : Bool) (r5 : Int) (r6 : Bool) (w : World) (h : spec_l06Tail.f k a0 a1 = some (r1, r2, r3, r4, r5, r6)) :
  Calls Tryz.prog 62 #[.int .i64 a0, .string a1] w fun e w' => e = .returned (.tuple #[.agg #[.int .i64 r1, .string r2, .int .i32 r3, .bool r4, .int .u32 r5], .bool r6]) ∧ Below w.heap.size w w' := by
 have hu46 := Tryz.underlying46; have HB := Z (Below.refl w.heap.size w); unfold spec_l06Tail.f at h; have H := h; clear h; replace H := Yi H; rcases H with ⟨c3, H⟩ | ⟨c3, H⟩
 ·obtain ⟨c3b0, c3b1⟩ := Ye c3; clear c3; replace H := Yd H; obtain ⟨⟨t509, t510⟩, A4, H⟩ := H; (try dsimp only at H); simp only [Option.some.injEq, Prod.mk.injEq] at H; obtain ⟨rfl, rfl, rfl, rfl, rfl, rfl⟩ := H; go_enter Tryz.func62, Tryz.ntmps62
  go_upto_region 6 with (first | ((with_reducible refine gate_dst (N := 4) rfl ?_); refine box_event (by rfl) (N := 4) (by rfl) (cs := #[.int .i64 0, .string (⟨#[]⟩ : ByteArray), .int .i32 0, .bool false, .int .u32 0]) (t := 46) Z4 ?_; intro gb507 hg w5 hbox hb; have BK507 := Z (hbox); have GW507 := Z ((Z124 : w.heap.size ≤ gb507)); have GE507 := Z ((Z124 : w.heap.size ≤ gb507)); replace HB := Z (below_step Z90 hb); clear hb hbox hg) | ((with_reducible refine gate_dst (N := 6) rfl ?_); refine box_event (by rfl) (N := 6) (by rfl) (cs := #[.int .i64 0, .string (⟨#[]⟩ : ByteArray), .int .i32 0, .bool false, .int .u32 0]) (t := 46) Z4 ?_; intro gb508 hg w6 hbox hb; have BK508 := Z (hbox); have GW508 := Z ((Z124 : w.heap.size ≤ gb508)); have GE508 := Z ((Z124 : w.heap.size ≤ gb508)); replace HB := Z (below_step Z90 hb); have NB507_508 := Z ((Z106 : gb507 ≠ gb508)); have NB508_507 := Z ((Z107 : gb508 ≠ gb507)); replace BK507 := Z (Yk7 BK507 hb); clear hb hbox hg; have hnb7 := NB508_507.out; have hnc7 := NB507_508.out; have hcz8 := Yb5 BK508.out))
  generalize hq_ : ((((World.setCell w6 _ _).setCell _ _).setCell _ _).setCell _ _).setCell _ _ = w7_; have n0_ : Aside0 (w7_.heap[gb508]? = some (.cells #[.int .i64 a0, .string (⟨#[]⟩ : ByteArray), .int .i32 0, .bool false, .int .u32 0] 46 (0, 0))) := ⟨by rw [← hq_]; refine blk_put (cs := #[.int .i64 a0, .string (⟨#[]⟩ : ByteArray), .int .i32 0, .bool false, .int .u32 0]) ?_ 4 _ rfl; refine blk_put (cs := #[.int .i64 a0, .string (⟨#[]⟩ : ByteArray), .int .i32 0, .bool false, .int .u32 0]) ?_ 3 _ rfl; refine blk_put (cs := #[.int .i64 a0, .string (⟨#[]⟩ : ByteArray), .int .i32 0, .bool false, .int .u32 0]) ?_ 2 _ rfl; refine blk_put (cs := #[.int .i64 a0, .string (⟨#[]⟩ : ByteArray), .int .i32 0, .bool false, .int .u32 0]) ?_ 1 _ rfl; refine blk_put (cs := #[.int .i64 0, .string (⟨#[]⟩ : ByteArray), .int .i32 0, .bool false, .int .u32 0]) ?_ 0 _ rfl; exact BK508.out⟩; have n1_ : Aside0 (w7_.heap[gb507]? = some (.cells #[.int .i64 0, .string (⟨#[]⟩ : ByteArray), .int .i32 0, .bool false, .int .u32 0] 46 (0, 0))) := ⟨by rw [← hq_]; refine blk_far ?_ NB507_508.out _; refine blk_far ?_ NB507_508.out _; refine blk_far ?_ NB507_508.out _; refine blk_far ?_ NB507_508.out _; refine blk_far ?_ NB507_508.out _; exact BK507.out⟩; have n2_ : Aside0 (Below w.heap.size w w7_) := ⟨by rw [← hq_]; refine below_set ?_ GE508.out; refine below_set ?_ GE508.out; refine below_set ?_ GE508.out; refine below_set ?_ GE508.out; refine below_set ?_ GE508.out; exact HB.out⟩; clear BK507 BK508 HB hq_; have BK508 := n0_; have BK507 := n1_; have HB := n2_; clear n0_ n1_ n2_; have hcy_0 : w7_.cell? ⟨gb508, 0, none⟩ = some (.int .i64 a0) := (blk_cell BK508.out 0).trans rfl; have hfy_0 := blk_frozen BK508.out 0; have hcy_1 : w7_.cell? ⟨gb508, 1, none⟩ = some (.string (⟨#[]⟩ : ByteArray)) := (blk_cell BK508.out 1).trans rfl; have hfy_1 := blk_frozen BK508.out 1; have hcy_2 : w7_.cell? ⟨gb508, 2, none⟩ = some (.int .i32 0) := (blk_cell BK508.out 2).trans rfl; have hfy_2 := blk_frozen BK508.out 2; have hcy_3 : w7_.cell? ⟨gb508, 3, none⟩ = some (.bool false) := (blk_cell BK508.out 3).trans rfl; have hfy_3 := blk_frozen BK508.out 3; have hcy_4 : w7_.cell? ⟨gb508, 4, none⟩ = some (.int .u32 0) := (blk_cell BK508.out 4).trans rfl; have hfy_4 := blk_frozen BK508.out 4
  go_wp2_with (first | ((with_reducible refine gate_callee (f := 95) rfl ?_); refine goesL_ (some 20) rfl rfl Tryz.func95 Z0 rfl #[.string a1] rfl Z8 ?_; (with_reducible refine (spec_ReadHex.calls k a1 t509 t510 _ A4.out).mono ?_); rintro e w' ⟨rfl, ⟨nd, rfl⟩⟩; refine ⟨_, rfl, ?_⟩; have hcz9 := Yb5 BK507.out))
  refine bodyPost_ret (results_ct rfl _ _ gb507 46 #[.int .i64 a0, .string (⟨#[]⟩ : ByteArray), .int .i32 0, .bool false, .int .u32 t509] (0, 0) _ rfl (by (with_reducible repeat (first | refine blk_drewN ?_ _ | refine blk_drew ?_ | refine blk_alloc ?_ _)); refine blk_put (cs := #[.int .i64 a0, .string (⟨#[]⟩ : ByteArray), .int .i32 0, .bool false, .int .u32 0]) ?_ 4 _ rfl; (with_reducible repeat (first | refine blk_drewN ?_ _ | refine blk_drew ?_ | refine blk_alloc ?_ _)); refine blk_put (cs := #[.int .i64 a0, .string (⟨#[]⟩ : ByteArray), .int .i32 0, .bool false, .int .u32 0]) ?_ 3 _ rfl; (with_reducible repeat (first | refine blk_drewN ?_ _ | refine blk_drew ?_ | refine blk_alloc ?_ _)); refine blk_put (cs := #[.int .i64 a0, .string (⟨#[]⟩ : ByteArray), .int .i32 0, .bool false, .int .u32 0]) ?_ 2 _ rfl; (with_reducible repeat (first | refine blk_drewN ?_ _ | refine blk_drew ?_ | refine blk_alloc ?_ _)); refine blk_put (cs := #[.int .i64 a0, .string (⟨#[]⟩ : ByteArray), .int .i32 0, .bool false, .int .u32 0]) ?_ 1 _ rfl; (with_reducible repeat (first | refine blk_drewN ?_ _ | refine blk_drew ?_ | refine blk_alloc ?_ _)); refine blk_put (cs := #[.int .i64 0, .string (⟨#[]⟩ : ByteArray), .int .i32 0, .bool false, .int .u32 0]) ?_ 0 _ rfl; (with_reducible repeat (first | refine blk_drewN ?_ _ | refine blk_drew ?_ | refine blk_alloc ?_ _)); refine blk_far ?_ NB507_508.out _; (with_reducible repeat (first | refine blk_drewN ?_ _ | refine blk_drew ?_ | refine blk_alloc ?_ _)); exact BK507.out) Tryz.underlying46 rfl Z0) rfl ?_
  exact ⟨Z91, Z90⟩
 obtain ⟨c3b0, c3b1⟩ := Yn c3; have HC10 := Aside0.mk H; clear H; go_enter Tryz.func62, Tryz.ntmps62
 go_upto_if 24 with (first | ((with_reducible refine gate_dst (N := 4) rfl ?_); refine box_event (by rfl) (N := 4) (by rfl) (cs := #[.int .i64 0, .string (⟨#[]⟩ : ByteArray), .int .i32 0, .bool false, .int .u32 0]) (t := 46) Z4 ?_; intro gb507 hg w11 hbox hb; have BK507 := Z (hbox); have GW507 := Z ((Z124 : w.heap.size ≤ gb507)); have GE507 := Z ((Z124 : w.heap.size ≤ gb507)); replace HB := Z (below_step Z90 hb); clear hb hbox hg) | ((with_reducible refine gate_dst (N := 6) rfl ?_); refine box_event (by rfl) (N := 6) (by rfl) (cs := #[.int .i64 0, .string (⟨#[]⟩ : ByteArray), .int .i32 0, .bool false, .int .u32 0]) (t := 46) Z4 ?_; intro gb508 hg w12 hbox hb; have BK508 := Z (hbox); have GW508 := Z ((Z124 : w.heap.size ≤ gb508)); have GE508 := Z ((Z124 : w.heap.size ≤ gb508)); replace HB := Z (below_step Z90 hb); have NB507_508 := Z ((Z106 : gb507 ≠ gb508)); have NB508_507 := Z ((Z107 : gb508 ≠ gb507)); replace BK507 := Z (Yk7 BK507 hb); clear hb hbox hg; have hnb13 := NB508_507.out; have hnc13 := NB507_508.out; have hcz14 := Yb5 BK508.out))
 (try simp only [Act.put, List.setIfInBounds_toArray, List.set_cons_zero, List.set_cons_succ])
 go_cut [24] (fun v24 wc => ∃ (kq : Nat) (x24_9 : Bool), v24 = .bool x24_9 ∧ Aside0 (spec_l06Tail.j0 kq a1 true a0 x24_9 a0 (⟨#[]⟩ : ByteArray) 0 false 0 = some (r1, r2, r3, r4, r5, r6)) ∧ Aside0 (kq ≤ k) ∧ Aside0 (wc.heap[gb507]? = some (.cells #[.int .i64 0, .string (⟨#[]⟩ : ByteArray), .int .i32 0, .bool false, .int .u32 0] 46 (0, 0))) ∧ Aside0 (wc.heap[gb508]? = some (.cells #[.int .i64 a0, .string (⟨#[]⟩ : ByteArray), .int .i32 0, .bool false, .int .u32 0] 46 (0, 0))) ∧ Aside0 (Below w.heap.size w wc))
 case first =>
  have H := HC10.out; clear HC10; replace H := Yi H; rcases H with ⟨c15, H⟩ | ⟨c15, H⟩
  ·obtain ⟨c15b0, c15b1⟩ := Ye c15; clear c15
   (first | rw [c15b0] | (simp only [i64_w, i32_w]; rw [c15b0]) | skip)
   have H' := Aside0.mk H; clear H
   go_wp2
   go_meet
   case rel => exact ⟨_, ((a0 == 7)), Z2, H', ⟨Z14⟩, ⟨(Z53 BK507)⟩, ⟨(Z54 BK508)⟩, ⟨Z90⟩⟩
  obtain ⟨c15b0, c15b1⟩ := Yn c15
  (first | rw [c15b0] | (simp only [i64_w, i32_w]; rw [c15b0]) | skip)
  have H' := Aside0.mk H; clear H
  go_wp2
  go_meet
  case rel => exact ⟨_, ((a0 == 8)), Z2, H', ⟨Z14⟩, ⟨(Z53 BK507)⟩, ⟨(Z54 BK508)⟩, ⟨Z90⟩⟩
 case rest =>
  clear HC10; (try clear c1); (try clear p2); (try clear c3); (try clear c3b0); (try clear c3b1); (try clear c6); (try clear c7); (try clear c9); (try clear c13); (try clear c15); (try clear c15b0); (try clear c15b1); (try clear hcz14); (try clear hcz8); (try clear hcz9); obtain ⟨kq, x24_9, rfl, HA, HJ9, BK507, BK508, HB⟩ := hcut
  cases kq with
  | zero => exact absurd HA.out (by simp [spec_l06Tail.j0])
  | succ kj9 =>
   have H := HA.out; clear HA; simp only [spec_l06Tail.j0] at H; by_cases c16 : x24_9 = true
   ·subst c16; replace H := Yt H; replace H := Yg H; obtain ⟨c17, H⟩ := H; have c17b0 := decide_eq_true c17; have c17b1 : decide (0 < a1.size) = true := decide_eq_true (by omega); clear c17; replace H := Yi H; rcases H with ⟨c19, H⟩ | ⟨c19, H⟩
    ·obtain ⟨c19b0, c19b1⟩ := Ye c19; clear c19; replace H := Yg H; obtain ⟨c20, H⟩ := H; have c20b0 := eq_true c20; have c20b1 := decide_eq_true c20; clear c20; replace H := Yd H; obtain ⟨⟨t511, t512⟩, A21, H⟩ := H; (try dsimp only at H); simp only [Option.some.injEq, Prod.mk.injEq] at H; obtain ⟨rfl, rfl, rfl, rfl, rfl, rfl⟩ := H; have p18 : 0 ≤ (0 : Int) := (by omega); have q18 : 0 < a1.size := Z108; have hx18 : ∀ h : 0 < a1.size, ((a1[0]'h).toNat : Int) = bt a1 0 := bt_at a1 0; clear p18; have qi18 : (0 < (a1.size : Int)) = True := eq_true (of_decide_eq_true Z7); replace q18 := eq_true q18
     go_wp2_with (first | ((with_reducible refine gate_callee (f := 95) rfl ?_); refine goesL_ (some 33) rfl rfl Tryz.func95 Z0 rfl #[.string (a1.extract 1 a1.size)] rfl Z8 ?_; (with_reducible refine (spec_ReadHex.calls kj9 (a1.extract 1 a1.size) t511 t512 _ A21.out).mono ?_); rintro e w' ⟨rfl, ⟨nd, rfl⟩⟩; refine ⟨_, rfl, ?_⟩; (try (rw [drewN_self wc]; generalize hq_ : World.drewN wc _ = wc; have n0_ : Aside0 (wc.heap[gb507]? = some (.cells #[.int .i64 0, .string (⟨#[]⟩ : ByteArray), .int .i32 0, .bool false, .int .u32 0] 46 (0, 0))) := ⟨by rw [← hq_]; exact (Z15 BK507)⟩; have n1_ : Aside0 (wc.heap[gb508]? = some (.cells #[.int .i64 a0, .string (⟨#[]⟩ : ByteArray), .int .i32 0, .bool false, .int .u32 0] 46 (0, 0))) := ⟨by rw [← hq_]; exact (Z15 BK508)⟩; have n2_ : Aside0 (Below w.heap.size w wc) := ⟨Z125⟩; clear BK507 BK508 HB hq_; have BK507 := n0_; have BK508 := n1_; have HB := n2_; clear n0_ n1_ n2_)); have hnb22 := NB508_507.out; have hnc22 := NB507_508.out; have hcz23 := Yb5 BK508.out; have hcz24 := Yb5 BK507.out))
     refine bodyPost_ret (results_ct rfl _ _ gb507 46 #[.int .i64 a0, .string (⟨#[]⟩ : ByteArray), .int .i32 (wrap32 (t511)), .bool true, .int .u32 0] (0, 0) _ rfl (by (with_reducible repeat (first | refine blk_drewN ?_ _ | refine blk_drew ?_ | refine blk_alloc ?_ _)); refine blk_put (cs := #[.int .i64 a0, .string (⟨#[]⟩ : ByteArray), .int .i32 (wrap32 (t511)), .bool true, .int .u32 0]) ?_ 4 _ rfl; (with_reducible repeat (first | refine blk_drewN ?_ _ | refine blk_drew ?_ | refine blk_alloc ?_ _)); refine blk_put (cs := #[.int .i64 a0, .string (⟨#[]⟩ : ByteArray), .int .i32 (wrap32 (t511)), .bool false, .int .u32 0]) ?_ 3 _ rfl; (with_reducible repeat (first | refine blk_drewN ?_ _ | refine blk_drew ?_ | refine blk_alloc ?_ _)); refine blk_put (cs := #[.int .i64 a0, .string (⟨#[]⟩ : ByteArray), .int .i32 0, .bool false, .int .u32 0]) ?_ 2 _ rfl; (with_reducible repeat (first | refine blk_drewN ?_ _ | refine blk_drew ?_ | refine blk_alloc ?_ _)); refine blk_put (cs := #[.int .i64 a0, .string (⟨#[]⟩ : ByteArray), .int .i32 0, .bool false, .int .u32 0]) ?_ 1 _ rfl; (with_reducible repeat (first | refine blk_drewN ?_ _ | refine blk_drew ?_ | refine blk_alloc ?_ _)); refine blk_put (cs := #[.int .i64 0, .string (⟨#[]⟩ : ByteArray), .int .i32 0, .bool false, .int .u32 0]) ?_ 0 _ rfl; (with_reducible repeat (first | refine blk_drewN ?_ _ | refine blk_drew ?_ | refine blk_alloc ?_ _)); refine blk_far ?_ NB507_508.out _; (with_reducible repeat (first | refine blk_drewN ?_ _ | refine blk_drew ?_ | refine blk_alloc ?_ _)); refine blk_far ?_ NB507_508.out _; (with_reducible repeat (first | refine blk_drewN ?_ _ | refine blk_drew ?_ | refine blk_alloc ?_ _)); exact BK507.out) Tryz.underlying46 rfl Z0) rfl ?_
     exact ⟨Z91, Z90⟩
    obtain ⟨c19b0, c19b1⟩ := Yn c19; replace H := Yg H; obtain ⟨c25, H⟩ := H; have c25b0 := eq_true c25; have c25b1 := decide_eq_true c25; clear c25; replace H := Yd H; obtain ⟨⟨t513, t514⟩, A26, H⟩ := H; (try dsimp only at H); simp only [Option.some.injEq, Prod.mk.injEq] at H; obtain ⟨rfl, rfl, rfl, rfl, rfl, rfl⟩ := H; have p18 : 0 ≤ (0 : Int) := (by omega); have q18 : 0 < a1.size := Z108; have hx18 : ∀ h : 0 < a1.size, ((a1[0]'h).toNat : Int) = bt a1 0 := bt_at a1 0; clear p18; have qi18 : (0 < (a1.size : Int)) = True := eq_true (of_decide_eq_true Z7); replace q18 := eq_true q18
    go_wp2_with (first | ((with_reducible refine gate_callee (f := 96) rfl ?_); refine goesL_ (some 45) rfl rfl Tryz.func96 Z0 rfl #[.string (a1.extract 1 a1.size)] rfl Z8 ?_; (with_reducible refine (spec_l06Dec.calls kj9 (a1.extract 1 a1.size) t513 t514 _ A26.out).mono ?_); rintro e w' ⟨rfl, ⟨nd, rfl⟩⟩; refine ⟨_, rfl, ?_⟩; (try (rw [drewN_self wc]; generalize hq_ : World.drewN wc _ = wc; have n0_ : Aside0 (wc.heap[gb507]? = some (.cells #[.int .i64 0, .string (⟨#[]⟩ : ByteArray), .int .i32 0, .bool false, .int .u32 0] 46 (0, 0))) := ⟨by rw [← hq_]; exact (Z15 BK507)⟩; have n1_ : Aside0 (wc.heap[gb508]? = some (.cells #[.int .i64 a0, .string (⟨#[]⟩ : ByteArray), .int .i32 0, .bool false, .int .u32 0] 46 (0, 0))) := ⟨by rw [← hq_]; exact (Z15 BK508)⟩; have n2_ : Aside0 (Below w.heap.size w wc) := ⟨Z125⟩; clear BK507 BK508 HB hq_; have BK507 := n0_; have BK508 := n1_; have HB := n2_; clear n0_ n1_ n2_)); have hnb27 := NB508_507.out; have hnc27 := NB507_508.out; have hcz28 := Yb5 BK508.out; have hcz29 := Yb5 BK507.out))
    refine bodyPost_ret (results_ct rfl _ _ gb507 46 #[.int .i64 a0, .string (⟨#[]⟩ : ByteArray), .int .i32 t513, .bool false, .int .u32 0] (0, 0) _ rfl (by (with_reducible repeat (first | refine blk_drewN ?_ _ | refine blk_drew ?_ | refine blk_alloc ?_ _)); refine blk_put (cs := #[.int .i64 a0, .string (⟨#[]⟩ : ByteArray), .int .i32 t513, .bool false, .int .u32 0]) ?_ 4 _ rfl; (with_reducible repeat (first | refine blk_drewN ?_ _ | refine blk_drew ?_ | refine blk_alloc ?_ _)); refine blk_put (cs := #[.int .i64 a0, .string (⟨#[]⟩ : ByteArray), .int .i32 t513, .bool false, .int .u32 0]) ?_ 3 _ rfl; (with_reducible repeat (first | refine blk_drewN ?_ _ | refine blk_drew ?_ | refine blk_alloc ?_ _)); refine blk_put (cs := #[.int .i64 a0, .string (⟨#[]⟩ : ByteArray), .int .i32 0, .bool false, .int .u32 0]) ?_ 2 _ rfl; (with_reducible repeat (first | refine blk_drewN ?_ _ | refine blk_drew ?_ | refine blk_alloc ?_ _)); refine blk_put (cs := #[.int .i64 a0, .string (⟨#[]⟩ : ByteArray), .int .i32 0, .bool false, .int .u32 0]) ?_ 1 _ rfl; (with_reducible repeat (first | refine blk_drewN ?_ _ | refine blk_drew ?_ | refine blk_alloc ?_ _)); refine blk_put (cs := #[.int .i64 0, .string (⟨#[]⟩ : ByteArray), .int .i32 0, .bool false, .int .u32 0]) ?_ 0 _ rfl; (with_reducible repeat (first | refine blk_drewN ?_ _ | refine blk_drew ?_ | refine blk_alloc ?_ _)); refine blk_far ?_ NB507_508.out _; (with_reducible repeat (first | refine blk_drewN ?_ _ | refine blk_drew ?_ | refine blk_alloc ?_ _)); exact BK507.out) Tryz.underlying46 rfl Z0) rfl ?_
    exact ⟨Z91, Z90⟩
   replace c16 := Bool.eq_false_iff.mpr c16; subst c16; replace H := Yf H; replace H := Yi H; rcases H with ⟨c30, H⟩ | ⟨c30, H⟩
   ·obtain ⟨c30b0, c30b1⟩ := Ye c30; clear c30; have H' := Aside0.mk H; clear H
    go_wp2
    go_loopg [10] kj9 (fun kq v10 w' => ∃ (x10_2 : Int), v10 = .int .i64 x10_2 ∧ Aside0 (spec_l06Tail.l0 kq a1 x10_2 a0 (⟨#[]⟩ : ByteArray) 0 false 0 = some (r1, r2, r3, r4, r5, r6)) ∧ Aside0 (kq ≤ kj9) ∧ Aside0 (w'.heap[gb507]? = some (.cells #[.int .i64 0, .string (⟨#[]⟩ : ByteArray), .int .i32 0, .bool false, .int .u32 0] 46 (0, 0))) ∧ Aside0 (w'.heap[gb508]? = some (.cells #[.int .i64 a0, .string (⟨#[]⟩ : ByteArray), .int .i32 0, .bool false, .int .u32 0] 46 (0, 0))) ∧ Aside0 (Below w.heap.size w w'))
    case atStart => exact ⟨(0), Z2, H', ⟨Nat.le_refl _⟩, ⟨(Z15 BK507)⟩, ⟨(Z15 BK508)⟩, ⟨Z90⟩⟩
    case round =>
     clear H'; (try clear c1); (try clear p1); (try clear q1); (try clear hx1); (try clear qi1); (try clear c2); (try clear p2); (try clear c3); (try clear c3b0); (try clear c3b1); (try clear p3); (try clear c6); (try clear c7); (try clear c9); (try clear c13); (try clear c15); (try clear c15b0); (try clear c15b1); (try clear c16); (try clear c17); (try clear c17b0); (try clear c17b1); (try clear p18); (try clear q18); (try clear hx18); (try clear qi18); (try clear c19); (try clear c19b0); (try clear c19b1); (try clear c20); (try clear c20b0); (try clear c20b1); (try clear c22); (try clear c25); (try clear c25b0); (try clear c25b1); (try clear c27); (try clear c30); (try clear c30b0); (try clear c30b1); (try clear hcz14); (try clear hcz23); (try clear hcz24); (try clear hcz28); (try clear hcz29); (try clear hcz8); (try clear hcz9); (try clear p18); (try clear p2); (try clear q18); obtain ⟨x10_2, rfl, HA, HK2, BK507, BK508, HB⟩ := hrel
     cases gk with
     | zero => exact absurd HA.out (by simp [spec_l06Tail.l0])
     | succ k2 =>
      have H := HA.out; clear HA; simp only [spec_l06Tail.l0] at H; replace H := Yi H; rcases H with ⟨c31, H⟩ | ⟨c31, H⟩
      ·have c31b0 := decide_eq_true c31; clear c31; replace H := Yg H; obtain ⟨c32, H⟩ := H; have c32b0 := decide_eq_true c32; clear c32; replace H := Yi H; rcases H with ⟨c34, H⟩ | ⟨c34, H⟩
       ·obtain ⟨c34b0, c34b1⟩ := Ye c34; clear c34; replace H := Yi H; rcases H with ⟨c35, H⟩ | ⟨c35, H⟩
        ·obtain ⟨c35b0, c35b1⟩ := Ye c35; clear c35; simp only [Option.some.injEq, Prod.mk.injEq] at H; obtain ⟨rfl, rfl, rfl, rfl, rfl, rfl⟩ := H; have p33 : 0 ≤ (x10_2 : Int) := of_decide_eq_true Z7; have q33 : x10_2 < (a1.size : Int) := of_decide_eq_true Z7; have hx33 := bt_at a1 x10_2; replace p33 := eq_true p33; replace q33 := eq_true q33; have hnb36 := NB507_508.out; have hnc36 := NB508_507.out; have hcz37 := Yb5 BK507.out
         go_wp2
         refine bodyPost_ret (results_ct rfl _ _ gb507 46 #[.int .i64 0, .string (⟨#[]⟩ : ByteArray), .int .i32 0, .bool false, .int .u32 0] (0, 0) _ rfl (Z24 BK507) Tryz.underlying46 rfl Z0) rfl ?_
         exact ⟨Z91, Z90⟩
        obtain ⟨c35b0, c35b1⟩ := Yn c35; have c38b0 := eq_true (of_decide_eq_true Z7 : 0 ≤ x10_2); replace H := Yg H; obtain ⟨c39, H⟩ := H; have c39b0 := eq_true c39; have c39b1 := decide_eq_true c39; clear c39; obtain ⟨ji40, hji40⟩ : ∃ j_ : Int, (wrap64 (x10_2 + 1)) = j_ := ⟨_, rfl⟩; replace H : (if 0 ≤ (ji40) then (if (ji40) ≤ (a1.size : Int) then ((spec_l06Dec.f k2 (a1.extract ((ji40) : Int).toNat a1.size)).bind fun bt515 => (some (a0, a1.extract 0 (x10_2 : Int).toNat, bt515.1, false, 0, bt515.2))) else (none)) else (none)) = some (r1, r2, r3, r4, r5, r6) := by first | (rw [hji40] at H; exact H) | (simp only [hji40] at H ⊢; exact H)
        have hji40w : (IntKind.i64.wrap (x10_2 + 1)) = ji40 := (i64_w _).trans hji40; replace H := Yg H; obtain ⟨c41, H⟩ := H; have c41b0 := eq_true c41; have c41b1 := decide_eq_true c41; clear c41; replace H := Yg H; obtain ⟨c42, H⟩ := H; have c42b0 := eq_true c42; have c42b1 := decide_eq_true c42; clear c42; replace H := Yd H; obtain ⟨⟨t515, t516⟩, A43, H⟩ := H; (try dsimp only at H); simp only [Option.some.injEq, Prod.mk.injEq] at H; obtain ⟨rfl, rfl, rfl, rfl, rfl, rfl⟩ := H; have p33 : 0 ≤ (x10_2 : Int) := of_decide_eq_true Z7; have q33 : x10_2 < (a1.size : Int) := of_decide_eq_true Z7; have hx33 := bt_at a1 x10_2; replace p33 := eq_true p33; replace q33 := eq_true q33; have hnb44 := NB508_507.out; have hnc44 := NB507_508.out; have hcz45 := Yb5 BK508.out
        go_wp2_with (first | ((with_reducible refine gate_callee (f := 96) rfl ?_); refine goesL_ (some 77) rfl rfl Tryz.func96 Z0 rfl #[.string (a1.extract ((ji40) : Int).toNat a1.size)] rfl (by (try simp only [List.map_toArray, List.map_cons, List.map_nil]); first | done | (simp only [hji40]; rfl) | rfl | (simp only [List.length_drop, List.length_take]; rfl)) ?_; (with_reducible refine (spec_l06Dec.calls k2 (a1.extract ((ji40) : Int).toNat a1.size) t515 t516 _ A43.out).mono ?_); rintro e w' ⟨rfl, ⟨nd, rfl⟩⟩; refine ⟨_, rfl, ?_⟩; have hcz46 := Yb5 BK507.out))
        refine bodyPost_ret (results_ct rfl _ _ gb507 46 #[.int .i64 a0, .string (a1.extract 0 (x10_2 : Int).toNat), .int .i32 t515, .bool false, .int .u32 0] (0, 0) _ rfl (by (with_reducible repeat (first | refine blk_drewN ?_ _ | refine blk_drew ?_ | refine blk_alloc ?_ _)); refine blk_put (cs := #[.int .i64 a0, .string (a1.extract 0 (x10_2 : Int).toNat), .int .i32 t515, .bool false, .int .u32 0]) ?_ 4 _ rfl; (with_reducible repeat (first | refine blk_drewN ?_ _ | refine blk_drew ?_ | refine blk_alloc ?_ _)); refine blk_put (cs := #[.int .i64 a0, .string (a1.extract 0 (x10_2 : Int).toNat), .int .i32 t515, .bool false, .int .u32 0]) ?_ 3 _ rfl; (with_reducible repeat (first | refine blk_drewN ?_ _ | refine blk_drew ?_ | refine blk_alloc ?_ _)); refine blk_put (cs := #[.int .i64 a0, .string (a1.extract 0 (x10_2 : Int).toNat), .int .i32 0, .bool false, .int .u32 0]) ?_ 2 _ rfl; (with_reducible repeat (first | refine blk_drewN ?_ _ | refine blk_drew ?_ | refine blk_alloc ?_ _)); refine blk_put (cs := #[.int .i64 a0, .string (⟨#[]⟩ : ByteArray), .int .i32 0, .bool false, .int .u32 0]) ?_ 1 _ rfl; (with_reducible repeat (first | refine blk_drewN ?_ _ | refine blk_drew ?_ | refine blk_alloc ?_ _)); refine blk_put (cs := #[.int .i64 0, .string (⟨#[]⟩ : ByteArray), .int .i32 0, .bool false, .int .u32 0]) ?_ 0 _ rfl; (with_reducible repeat (first | refine blk_drewN ?_ _ | refine blk_drew ?_ | refine blk_alloc ?_ _)); refine blk_far ?_ NB507_508.out _; (with_reducible repeat (first | refine blk_drewN ?_ _ | refine blk_drew ?_ | refine blk_alloc ?_ _)); refine blk_far ?_ NB507_508.out _; (with_reducible repeat (first | refine blk_drewN ?_ _ | refine blk_drew ?_ | refine blk_alloc ?_ _)); exact BK507.out) Tryz.underlying46 rfl Z0) rfl ?_
        exact ⟨by first | rfl | (rw [← show ∀ l_ : List UInt8, (!l_.isEmpty) = (l_ != []) from fun l_ => Z11]; rfl) | (simp [errW_none, errW_some] <;> rfl) | (simp only [← hji40]; first | rfl | (simp [errW_none, errW_some] <;> rfl)) | (simp [*, errW_none, errW_some] <;> rfl), Z90⟩
       obtain ⟨c34b0, c34b1⟩ := Yn c34; have H' := Aside0.mk H; clear H; have p33 : 0 ≤ (x10_2 : Int) := of_decide_eq_true Z7; have q33 : x10_2 < (a1.size : Int) := of_decide_eq_true Z7; have hx33 := bt_at a1 x10_2; replace p33 := eq_true p33; replace q33 := eq_true q33
       go_wp2
       go_roundg k2
       case measure => have := HJ9.out; have := HK2.out; omega
       case rel => exact ⟨(wrap64 (x10_2 + 1)), Z2, H', ⟨by have := HJ9.out; have := HK2.out; omega⟩, ⟨(Z15 BK507)⟩, ⟨(Z15 BK508)⟩, ⟨Z90⟩⟩
      have c31b0 := decide_eq_false c31; clear c31; replace H := Yi H; rcases H with ⟨c47, H⟩ | ⟨c47, H⟩
      ·obtain ⟨c47b0, c47b1⟩ := Ye c47; clear c47; simp only [Option.some.injEq, Prod.mk.injEq] at H; obtain ⟨rfl, rfl, rfl, rfl, rfl, rfl⟩ := H; have hnb48 := NB507_508.out; have hnc48 := NB508_507.out; have hcz49 := Yb5 BK507.out
       go_wp2
       refine bodyPost_ret (results_ct rfl _ _ gb507 46 #[.int .i64 0, .string (⟨#[]⟩ : ByteArray), .int .i32 0, .bool false, .int .u32 0] (0, 0) _ rfl (Z24 BK507) Tryz.underlying46 rfl Z0) rfl ?_
       exact ⟨Z91, Z90⟩
      obtain ⟨c47b0, c47b1⟩ := Yn c47; replace H := Yg H; obtain ⟨c50, H⟩ := H; have c50b0 := eq_true c50; have c50b1 := decide_eq_true c50; clear c50; replace H := Yg H; obtain ⟨c51, H⟩ := H; have c51b0 := eq_true c51; have c51b1 := decide_eq_true c51; clear c51; obtain ⟨ji52, hji52⟩ : ∃ j_ : Int, (wrap64 (x10_2 + 1)) = j_ := ⟨_, rfl⟩; replace H : (if 0 ≤ (ji52) then (if (ji52) ≤ (a1.size : Int) then ((spec_l06Dec.f k2 (a1.extract ((ji52) : Int).toNat a1.size)).bind fun bt517 => (some (a0, a1.extract 0 (x10_2 : Int).toNat, bt517.1, false, 0, bt517.2))) else (none)) else (none)) = some (r1, r2, r3, r4, r5, r6) := by first | (rw [hji52] at H; exact H) | (simp only [hji52] at H ⊢; exact H)
      have hji52w : (IntKind.i64.wrap (x10_2 + 1)) = ji52 := (i64_w _).trans hji52; replace H := Yg H; obtain ⟨c53, H⟩ := H; have c53b0 := eq_true c53; have c53b1 := decide_eq_true c53; clear c53; replace H := Yg H; obtain ⟨c54, H⟩ := H; have c54b0 := eq_true c54; have c54b1 := decide_eq_true c54; clear c54; replace H := Yd H; obtain ⟨⟨t517, t518⟩, A55, H⟩ := H; (try dsimp only at H); simp only [Option.some.injEq, Prod.mk.injEq] at H; obtain ⟨rfl, rfl, rfl, rfl, rfl, rfl⟩ := H; have hnb56 := NB508_507.out; have hnc56 := NB507_508.out; have hcz57 := Yb5 BK508.out
      go_wp2_with (first | ((with_reducible refine gate_callee (f := 96) rfl ?_); refine goesL_ (some 77) rfl rfl Tryz.func96 Z0 rfl #[.string (a1.extract ((ji52) : Int).toNat a1.size)] rfl (by (try simp only [List.map_toArray, List.map_cons, List.map_nil]); first | done | (simp only [hji52]; rfl) | rfl | (simp only [List.length_drop, List.length_take]; rfl)) ?_; (with_reducible refine (spec_l06Dec.calls k2 (a1.extract ((ji52) : Int).toNat a1.size) t517 t518 _ A55.out).mono ?_); rintro e w' ⟨rfl, ⟨nd, rfl⟩⟩; refine ⟨_, rfl, ?_⟩; have hcz58 := Yb5 BK507.out))
      refine bodyPost_ret (results_ct rfl _ _ gb507 46 #[.int .i64 a0, .string (a1.extract 0 (x10_2 : Int).toNat), .int .i32 t517, .bool false, .int .u32 0] (0, 0) _ rfl (by (with_reducible repeat (first | refine blk_drewN ?_ _ | refine blk_drew ?_ | refine blk_alloc ?_ _)); refine blk_put (cs := #[.int .i64 a0, .string (a1.extract 0 (x10_2 : Int).toNat), .int .i32 t517, .bool false, .int .u32 0]) ?_ 4 _ rfl; (with_reducible repeat (first | refine blk_drewN ?_ _ | refine blk_drew ?_ | refine blk_alloc ?_ _)); refine blk_put (cs := #[.int .i64 a0, .string (a1.extract 0 (x10_2 : Int).toNat), .int .i32 t517, .bool false, .int .u32 0]) ?_ 3 _ rfl; (with_reducible repeat (first | refine blk_drewN ?_ _ | refine blk_drew ?_ | refine blk_alloc ?_ _)); refine blk_put (cs := #[.int .i64 a0, .string (a1.extract 0 (x10_2 : Int).toNat), .int .i32 0, .bool false, .int .u32 0]) ?_ 2 _ rfl; (with_reducible repeat (first | refine blk_drewN ?_ _ | refine blk_drew ?_ | refine blk_alloc ?_ _)); refine blk_put (cs := #[.int .i64 a0, .string (⟨#[]⟩ : ByteArray), .int .i32 0, .bool false, .int .u32 0]) ?_ 1 _ rfl; (with_reducible repeat (first | refine blk_drewN ?_ _ | refine blk_drew ?_ | refine blk_alloc ?_ _)); refine blk_put (cs := #[.int .i64 0, .string (⟨#[]⟩ : ByteArray), .int .i32 0, .bool false, .int .u32 0]) ?_ 0 _ rfl; (with_reducible repeat (first | refine blk_drewN ?_ _ | refine blk_drew ?_ | refine blk_alloc ?_ _)); refine blk_far ?_ NB507_508.out _; (with_reducible repeat (first | refine blk_drewN ?_ _ | refine blk_drew ?_ | refine blk_alloc ?_ _)); refine blk_far ?_ NB507_508.out _; (with_reducible repeat (first | refine blk_drewN ?_ _ | refine blk_drew ?_ | refine blk_alloc ?_ _)); exact BK507.out) Tryz.underlying46 rfl Z0) rfl ?_
      exact ⟨by first | rfl | (rw [← show ∀ l_ : List UInt8, (!l_.isEmpty) = (l_ != []) from fun l_ => Z11]; rfl) | (simp [errW_none, errW_some] <;> rfl) | (simp only [← hji52]; first | rfl | (simp [errW_none, errW_some] <;> rfl)) | (simp [*, errW_none, errW_some] <;> rfl), Z90⟩
   obtain ⟨c30b0, c30b1⟩ := Yn c30; simp only [Option.some.injEq, Prod.mk.injEq] at H; obtain ⟨rfl, rfl, rfl, rfl, rfl, rfl⟩ := H; have hnb59 := NB508_507.out; have hnc59 := NB507_508.out; have hcz60 := Yb5 BK508.out; have hcz61 := Yb5 BK507.out
   go_wp2
   refine bodyPost_ret (results_ct rfl _ _ gb507 46 #[.int .i64 a0, .string a1, .int .i32 0, .bool false, .int .u32 0] (0, 0) _ rfl (by (with_reducible repeat (first | refine blk_drewN ?_ _ | refine blk_drew ?_ | refine blk_alloc ?_ _)); refine blk_put (cs := #[.int .i64 a0, .string a1, .int .i32 0, .bool false, .int .u32 0]) ?_ 4 _ rfl; (with_reducible repeat (first | refine blk_drewN ?_ _ | refine blk_drew ?_ | refine blk_alloc ?_ _)); refine blk_put (cs := #[.int .i64 a0, .string a1, .int .i32 0, .bool false, .int .u32 0]) ?_ 3 _ rfl; (with_reducible repeat (first | refine blk_drewN ?_ _ | refine blk_drew ?_ | refine blk_alloc ?_ _)); refine blk_put (cs := #[.int .i64 a0, .string a1, .int .i32 0, .bool false, .int .u32 0]) ?_ 2 _ rfl; (with_reducible repeat (first | refine blk_drewN ?_ _ | refine blk_drew ?_ | refine blk_alloc ?_ _)); refine blk_put (cs := #[.int .i64 a0, .string (⟨#[]⟩ : ByteArray), .int .i32 0, .bool false, .int .u32 0]) ?_ 1 _ rfl; (with_reducible repeat (first | refine blk_drewN ?_ _ | refine blk_drew ?_ | refine blk_alloc ?_ _)); refine blk_put (cs := #[.int .i64 0, .string (⟨#[]⟩ : ByteArray), .int .i32 0, .bool false, .int .u32 0]) ?_ 0 _ rfl; (with_reducible repeat (first | refine blk_drewN ?_ _ | refine blk_drew ?_ | refine blk_alloc ?_ _)); refine blk_far ?_ NB507_508.out _; (with_reducible repeat (first | refine blk_drewN ?_ _ | refine blk_drew ?_ | refine blk_alloc ?_ _)); exact BK507.out) Tryz.underlying46 rfl Z0) rfl ?_
   exact ⟨Z91, Z90⟩

end Go.Proofs.YtfjmpdcflnaogaaGreatDoor.QFnExactImport
