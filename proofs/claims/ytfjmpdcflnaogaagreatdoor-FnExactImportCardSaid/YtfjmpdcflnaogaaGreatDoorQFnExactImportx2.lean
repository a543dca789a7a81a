/-
Plain functions for the Go functions that a law reaches, each with a proof that the translation's call comes to just that; no conditions beyond those written in each.
-/
import Derived.Test.YtfjmpdcflnaogaaGreatDoorSFnExactImport
import Derived.Test.YtfjmpdcflnaogaaGreatDoorQFnExactImportx1
namespace Go.Proofs.YtfjmpdcflnaogaaGreatDoor.QFnExactImport
open Go.RowKit Go.Proofs.YtfjmpdcflnaogaaGreatDoorW.PrintWords Go.Proofs.YtfjmpdcflnaogaaGreatDoorW.PrintLast Go.Proofs.YtfjmpdcflnaogaaGreatDoorW.PrintMore
attribute [local go_sem] max2_int min2_int max_two min_two max_three min_three max_four min_four   -- for this text's walks alone
set_option linter.unusedVariables false
set_option maxHeartbeats 8000000
set_option maxRecDepth 100000
set_option linter.unusedSimpArgs false

def impl_ItemText.f (k : Nat) (a0_0 : Int) (a0_1 : ByteArray) (a0_2 : Int) (a0_3 : Bool) (a0_4 : Int) : Option (ByteArray) := (impl_ItemOk.f k a0_0 a0_1 a0_2 a0_3 a0_4).bind fun t188 => (if t188 = true then (if a0_0 = 0 then ((impl_HexText.f a0_4).bind fun t189 => (if 1 + t189.size ≤ 9223372036854775807 then (some ((⟨#[37]⟩ : ByteArray) ++ t189)) else (none))) else (if a0_0 = 7 then ((impl_digits.f a0_2 a0_3).bind fun t190 => (if 1 + t190.size ≤ 9223372036854775807 then (some ((⟨#[126]⟩ : ByteArray) ++ t190)) else (none))) else (if a0_0 = 8 then ((impl_digits.f a0_2 a0_3).bind fun t191 => (if 1 + t191.size ≤ 9223372036854775807 then (some ((⟨#[61]⟩ : ByteArray) ++ t191)) else (none))) else (if a0_0 = 9 then (if 1 + a0_1.size ≤ 9223372036854775807 then ((impl_digits.f a0_2 false).bind fun t192 => (if ((⟨#[38]⟩ : ByteArray) ++ a0_1).size + t192.size ≤ 9223372036854775807 then (some (((⟨#[38]⟩ : ByteArray) ++ a0_1) ++ t192)) else (none))) else (none)) else ((impl_mark.f a0_0).bind fun t193 => (if t193.size + a0_1.size ≤ 9223372036854775807 then (some (t193 ++ a0_1)) else (none))))))) else (some (⟨#[]⟩ : ByteArray)))
def impl_ItemText.T10 : Bool × List (List Nat × List Nat) := (true, [([], []), ([0], [0]), ([1], [1]), ([], []), ([3], [3]), ([4], [4]), ([2, 5], [2, 5]), ([6, 5, 0, 1, 2, 3, 4, 5, 6], [6])])
def impl_ItemText.B10 : List Nat := [0, 1, 3, 0, 8, 24, 63, 127]
theorem impl_ItemText.tab10 : rtab .any (opsOf Tryz.f21 10) = impl_ItemText.T10 := Z0
theorem impl_ItemText.bits10 : waitsOk impl_ItemText.T10.2 impl_ItemText.B10 = true := Z0
theorem impl_ItemText.calls (k : Nat) (a0_0 : Int) (a0_1 : ByteArray) (a0_2 : Int) (a0_3 : Bool) (a0_4 : Int) (r : ByteArray) (w : World) (h : impl_ItemText.f k a0_0 a0_1 a0_2 a0_3 a0_4 = some r) (HT0 : Aside0 (Itoa.Tab w)) :
  Calls Tryz.prog 21 #[.agg #[.int .i64 a0_0, .string a0_1, .int .i32 a0_2, .bool a0_3, .int .u32 a0_4]] w fun e w' => e = .returned (.string r) ∧ Below w.heap.size w w' := by
 have hu46 := Tryz.underlying46; have HB := Z (Below.refl w.heap.size w); unfold impl_ItemText.f at h; have H := h; clear h; replace H := Yd H; obtain ⟨t188, A2, H⟩ := H; (try dsimp only at H); by_cases c3 : t188 = true
 ·subst c3; replace H := Yt H; replace H := Yi H; rcases H with ⟨c4, H⟩ | ⟨c4, H⟩
  ·obtain ⟨c4b0, c4b1⟩ := Ye c4; clear c4; replace H := Yd H; obtain ⟨t189, A5, H⟩ := H; (try dsimp only at H); replace H := Yg H; obtain ⟨c6, H⟩ := H; have c6b0 := eq_true c6; have c6b1 := decide_eq_true c6
   try have c6b2 : (9223372036854775807 < 1 + t189.size) = False := eq_false (Nat.not_lt.2 c6)
   obtain rfl := Option.some.inj H; go_enter Tryz.func21, Tryz.ntmps21
   go_wp2_with (first | ((with_reducible refine gate_dst (N := 1) rfl ?_); refine box_event (by rfl) (N := 1) (by rfl) (cs := #[.int .i64 a0_0, .string a0_1, .int .i32 a0_2, .bool a0_3, .int .u32 a0_4]) (t := 46) Z4 ?_; intro gb187 hg w7 hbox hb; have BK187 := Z (hbox); have GW187 := Z ((Z124 : w.heap.size ≤ gb187)); have GE187 := Z ((Z124 : w.heap.size ≤ gb187)); replace HB := Z (below_step Z90 hb); clear hb hbox hg; have hcz8 := Yb5 BK187.out) | ((with_reducible refine gate_callee (f := 44) rfl ?_); refine goesL_ (some 5) rfl rfl Tryz.func44 Z0 rfl #[.agg #[.int .i64 a0_0, .string a0_1, .int .i32 a0_2, .bool a0_3, .int .u32 a0_4]] rfl Z8 ?_; (with_reducible refine (impl_ItemOk.calls k a0_0 a0_1 a0_2 a0_3 a0_4 true _ A2.out).mono ?_); rintro e w9 ⟨rfl, hb⟩; refine ⟨_, rfl, ?_⟩; replace BK187 := Z (Yk BK187 hb); replace HB := Z (below_step Z90 hb); (try clear hb); (try clear hb2); (try clear hk); (try clear hi); have hcz10 := Yb5 BK187.out) | ((with_reducible refine gate_callee (f := 45) rfl ?_); refine goesL_ (some 13) rfl rfl Tryz.func45 Z0 rfl #[.int .u32 a0_4] rfl Z8 ?_; (with_reducible refine (impl_HexText.calls a0_4 t189 _ A5.out ⟨Itoa.tab_at HT0.out Z92⟩).mono ?_); rintro e w11 ⟨rfl, hb⟩; refine ⟨_, rfl, ?_⟩; replace BK187 := Z (Yk BK187 hb); replace HB := Z (below_step Z90 hb); (try clear hb); (try clear hb2); (try clear hk); (try clear hi)))
   go_ret
   exact ⟨Z91, Z90⟩
  obtain ⟨c4b0, c4b1⟩ := Yn c4; replace H := Yi H; rcases H with ⟨c12, H⟩ | ⟨c12, H⟩
  ·obtain ⟨c12b0, c12b1⟩ := Ye c12; clear c12; replace H := Yd H; obtain ⟨t190, A13, H⟩ := H; (try dsimp only at H); replace H := Yg H; obtain ⟨c14, H⟩ := H; have c14b0 := eq_true c14; have c14b1 := decide_eq_true c14
   try have c14b2 : (9223372036854775807 < 1 + t190.size) = False := eq_false (Nat.not_lt.2 c14)
   obtain rfl := Option.some.inj H; go_enter Tryz.func21, Tryz.ntmps21
   go_wp2_with (first | ((with_reducible refine gate_dst (N := 1) rfl ?_); refine box_event (by rfl) (N := 1) (by rfl) (cs := #[.int .i64 a0_0, .string a0_1, .int .i32 a0_2, .bool a0_3, .int .u32 a0_4]) (t := 46) Z4 ?_; intro gb187 hg w15 hbox hb; have BK187 := Z (hbox); have GW187 := Z ((Z124 : w.heap.size ≤ gb187)); have GE187 := Z ((Z124 : w.heap.size ≤ gb187)); replace HB := Z (below_step Z90 hb); clear hb hbox hg; have hcz16 := Yb5 BK187.out) | ((with_reducible refine gate_callee (f := 44) rfl ?_); refine goesL_ (some 5) rfl rfl Tryz.func44 Z0 rfl #[.agg #[.int .i64 a0_0, .string a0_1, .int .i32 a0_2, .bool a0_3, .int .u32 a0_4]] rfl Z8 ?_; (with_reducible refine (impl_ItemOk.calls k a0_0 a0_1 a0_2 a0_3 a0_4 true _ A2.out).mono ?_); rintro e w17 ⟨rfl, hb⟩; refine ⟨_, rfl, ?_⟩; replace BK187 := Z (Yk BK187 hb); replace HB := Z (below_step Z90 hb); (try clear hb); (try clear hb2); (try clear hk); (try clear hi); have hcz18 := Yb5 BK187.out) | ((with_reducible refine gate_callee (f := 46) rfl ?_); refine goesL_ (some 23) rfl rfl Tryz.func46 Z0 rfl #[.int .i32 a0_2, .bool a0_3] rfl Z8 ?_; (with_reducible refine (impl_digits.calls a0_2 a0_3 t190 _ A13.out ⟨Itoa.tab_at HT0.out Z92⟩).mono ?_); rintro e w19 ⟨rfl, hb⟩; refine ⟨_, rfl, ?_⟩; replace BK187 := Z (Yk BK187 hb); replace HB := Z (below_step Z90 hb); (try clear hb); (try clear hb2); (try clear hk); (try clear hi)))
   go_ret
   exact ⟨Z91, Z90⟩
  obtain ⟨c12b0, c12b1⟩ := Yn c12; replace H := Yi H; rcases H with ⟨c20, H⟩ | ⟨c20, H⟩
  ·obtain ⟨c20b0, c20b1⟩ := Ye c20; clear c20; replace H := Yd H; obtain ⟨t191, A21, H⟩ := H; (try dsimp only at H); replace H := Yg H; obtain ⟨c22, H⟩ := H; have c22b0 := eq_true c22; have c22b1 := decide_eq_true c22
   try have c22b2 : (9223372036854775807 < 1 + t191.size) = False := eq_false (Nat.not_lt.2 c22)
   obtain rfl := Option.some.inj H; go_enter Tryz.func21, Tryz.ntmps21
   go_wp2_with (first | ((with_reducible refine gate_dst (N := 1) rfl ?_); refine box_event (by rfl) (N := 1) (by rfl) (cs := #[.int .i64 a0_0, .string a0_1, .int .i32 a0_2, .bool a0_3, .int .u32 a0_4]) (t := 46) Z4 ?_; intro gb187 hg w23 hbox hb; have BK187 := Z (hbox); have GW187 := Z ((Z124 : w.heap.size ≤ gb187)); have GE187 := Z ((Z124 : w.heap.size ≤ gb187)); replace HB := Z (below_step Z90 hb); clear hb hbox hg; have hcz24 := Yb5 BK187.out) | ((with_reducible refine gate_callee (f := 44) rfl ?_); refine goesL_ (some 5) rfl rfl Tryz.func44 Z0 rfl #[.agg #[.int .i64 a0_0, .string a0_1, .int .i32 a0_2, .bool a0_3, .int .u32 a0_4]] rfl Z8 ?_; (with_reducible refine (impl_ItemOk.calls k a0_0 a0_1 a0_2 a0_3 a0_4 true _ A2.out).mono ?_); rintro e w25 ⟨rfl, hb⟩; refine ⟨_, rfl, ?_⟩; replace BK187 := Z (Yk BK187 hb); replace HB := Z (below_step Z90 hb); (try clear hb); (try clear hb2); (try clear hk); (try clear hi); have hcz26 := Yb5 BK187.out) | ((with_reducible refine gate_callee (f := 46) rfl ?_); refine goesL_ (some 33) rfl rfl Tryz.func46 Z0 rfl #[.int .i32 a0_2, .bool a0_3] rfl Z8 ?_; (with_reducible refine (impl_digits.calls a0_2 a0_3 t191 _ A21.out ⟨Itoa.tab_at HT0.out Z92⟩).mono ?_); rintro e w27 ⟨rfl, hb⟩; refine ⟨_, rfl, ?_⟩; replace BK187 := Z (Yk BK187 hb); replace HB := Z (below_step Z90 hb); (try clear hb); (try clear hb2); (try clear hk); (try clear hi)))
   go_ret
   exact ⟨Z91, Z90⟩
  obtain ⟨c20b0, c20b1⟩ := Yn c20; replace H := Yi H; rcases H with ⟨c28, H⟩ | ⟨c28, H⟩
  ·obtain ⟨c28b0, c28b1⟩ := Ye c28; clear c28; replace H := Yg H; obtain ⟨c29, H⟩ := H; have c29b0 := eq_true c29; have c29b1 := decide_eq_true c29
   try have c29b2 : (9223372036854775807 < 1 + a0_1.size) = False := eq_false (Nat.not_lt.2 c29)
   replace H := Yd H; obtain ⟨t192, A30, H⟩ := H; (try dsimp only at H); replace H := Yg H; obtain ⟨c31, H⟩ := H; have c31b0 := eq_true c31; have c31b1 := decide_eq_true c31
   try have c31b2 : (9223372036854775807 < ((⟨#[38]⟩ : ByteArray) ++ a0_1).size + t192.size) = False := eq_false (Nat.not_lt.2 c31)
   try (have c31b3 := c31; simp only [ByteArray.size_append] at c31b3; replace c31b3 := eq_true c31b3)
   try (have c31b4 := c31b2; simp only [ByteArray.size_append] at c31b4; (try rw [show (⟨#[38]⟩ : ByteArray).size = 1 from rfl] at c31b4))
   obtain rfl := Option.some.inj H; go_enter Tryz.func21, Tryz.ntmps21
   try go_wp2_with (first | ((with_reducible refine gate_dst (N := 1) rfl ?_); refine box_event (by rfl) (N := 1) (by rfl) (cs := #[.int .i64 a0_0, .string a0_1, .int .i32 a0_2, .bool a0_3, .int .u32 a0_4]) (t := 46) Z4 ?_; intro gb187 hg w32 hbox hb; have BK187 := Z (hbox); have GW187 := Z ((Z124 : w.heap.size ≤ gb187)); have GE187 := Z ((Z124 : w.heap.size ≤ gb187)); replace HB := Z (below_step Z90 hb); clear hb hbox hg; have hcz33 := Yb5 BK187.out) | ((with_reducible refine gate_callee (f := 44) rfl ?_); refine goesL_ (some 5) rfl rfl Tryz.func44 Z0 rfl #[.agg #[.int .i64 a0_0, .string a0_1, .int .i32 a0_2, .bool a0_3, .int .u32 a0_4]] rfl Z8 ?_; (with_reducible refine (impl_ItemOk.calls k a0_0 a0_1 a0_2 a0_3 a0_4 true _ A2.out).mono ?_); rintro e w34 ⟨rfl, hb⟩; refine ⟨_, rfl, ?_⟩; replace BK187 := Z (Yk BK187 hb); replace HB := Z (below_step Z90 hb); (try clear hb); (try clear hb2); (try clear hk); (try clear hi); have hcz35 := Yb5 BK187.out))
   have n0_ := Z (blk_drew BK187.out); have n1_ := Z (below_drew1 HB.out); clear BK187; clear HB; have BK187 := n0_; have HB := n1_; clear n0_ n1_; refine start_ (n := 8) (S := fun w' => w'.cell? ⟨gb187, 0, none⟩ = some (.int .i64 a0_0) ∧ w'.cell? ⟨gb187, 1, none⟩ = some (.string a0_1) ∧ w'.cell? ⟨gb187, 2, none⟩ = some (.int .i32 a0_2) ∧ w'.cell? ⟨gb187, 3, none⟩ = some (.bool a0_3) ∧ w'.cell? ⟨gb187, 4, none⟩ = some (.int .u32 a0_4)) (ds := []) #[false, false, false, false, false, false, false, false] Z0 rfl rfl ⟨(blk_cell BK187.out 0).trans rfl, (blk_cell BK187.out 1).trans rfl, (blk_cell BK187.out 2).trans rfl, (blk_cell BK187.out 3).trans rfl, (blk_cell BK187.out 4).trans rfl⟩ (fun hHeld => ?_); refine with_tabW impl_ItemText.tab10 impl_ItemText.bits10 (fun HT_ HW_ => ?_)
   generalize w34.drew = w36 at BK187 HB hHeld ⊢; refine pure_ (i := 0) (N := some 39) (v := ?_) (a' := ?_) #[true, false, false, false, false, false, false, false] rfl rfl (any_of HT_.out Z0) (fun _ _ _ h => h) (Or.inl ⟨by rfl, ?_⟩) ?_ ?_
   rotate_left
   ·intro w'
    go_simp
    with_reducible rfl
   rotate_left
   ·simp only [Act.put, List.setIfInBounds_toArray, List.set_cons_zero, List.set_cons_succ, i64_w, i32_w]
    rfl
   refine pure_ (i := 3) (N := some 42) (v := ?_) (a' := ?_) #[true, false, false, true, false, false, false, false] rfl rfl (any_of HT_.out Z0) (fun _ _ _ h => h) (Or.inl ⟨by rfl, ?_⟩) ?_ ?_
   rotate_left
   ·intro w'
    go_simp
    with_reducible rfl
   rotate_left
   ·simp only [Act.put, List.setIfInBounds_toArray, List.set_cons_zero, List.set_cons_succ, i64_w, i32_w]
    rfl
   refine take_ (i := 1) (N := some 40) (v := ?_) (a' := ?_) #[true, true, false, true, false, false, false, false] rfl rfl (take_ofW HT_.out HW_.out Z0) (fun _ _ _ h => h) (Or.inl ⟨by rfl, ?_⟩) hHeld ?_ ?_
   rotate_left
   ·rintro w' ⟨s0, s1, s2, s3, s4⟩
    go_simp
    with_reducible rfl
   rotate_left
   ·simp only [Act.put, List.setIfInBounds_toArray, List.set_cons_zero, List.set_cons_succ, i64_w, i32_w]
    rfl
   refine pure_ (i := 2) (N := some 41) (v := ?_) (a' := ?_) #[true, true, true, true, false, false, false, false] rfl rfl (any_of HT_.out Z0) (fun _ _ _ h => h) (Or.inl ⟨by rfl, ?_⟩) ?_ ?_
   rotate_left
   ·intro w'
    go_simp
    with_reducible rfl
   rotate_left
   ·simp only [Act.put, List.setIfInBounds_toArray, List.set_cons_zero, List.set_cons_succ, i64_w, i32_w]
    rfl
   refine take_ (i := 4) (N := some 43) (v := ?_) (a' := ?_) #[true, true, true, true, true, false, false, false] rfl rfl (take_ofW HT_.out HW_.out Z0) (fun _ _ _ h => h) (Or.inl ⟨by rfl, ?_⟩) hHeld ?_ ?_
   rotate_left
   ·rintro w' ⟨s0, s1, s2, s3, s4⟩
    go_simp
    with_reducible rfl
   rotate_left
   ·simp only [Act.put, List.setIfInBounds_toArray, List.set_cons_zero, List.set_cons_succ, i64_w, i32_w]
    rfl
   refine one_ (i := 5) (N := some 44) #[true, true, true, true, true, true, false, false] rfl rfl (one_of HT_.out Z0) (by decide) (fun K hK => ?_)
   refine goes_ Tryz.func46 Z0 rfl #[.int .i32 a0_2, .bool false] (by rfl) rfl rfl Z8 ?_
   with_reducible refine (impl_digits.calls a0_2 false t192 _ A30.out ⟨Itoa.tab_at HT0.out Z92⟩).mono ?_
   rintro e w37 ⟨rfl, hb⟩; refine ⟨_, rfl, ?_⟩
   have n0_ := Z (Yk BK187 hb); have n1_ := Z (below_step Z90 hb); clear BK187; clear HB; have BK187 := n0_; have HB := n1_; clear n0_ n1_
   (try clear hb)
   (try clear hb2)
   (try clear hk)
   (try clear hi)
   refine hK.out _ _ ⟨(blk_cell BK187.out 0).trans rfl, (blk_cell BK187.out 1).trans rfl, (blk_cell BK187.out 2).trans rfl, (blk_cell BK187.out 3).trans rfl, (blk_cell BK187.out 4).trans rfl⟩ (fun hHeld => ?_)
   clear hK K; refine norm_ (a' := ?_) ?_ ?_
   rotate_left
   ·show Act.put _ (some 44) _ = _
    simp only [Act.put, List.setIfInBounds_toArray, List.set_cons_zero, List.set_cons_succ, i64_w, i32_w]
    rfl
   refine pure_ (i := 6) (N := some 45) (v := ?_) (a' := ?_) #[true, true, true, true, true, true, true, false] rfl rfl (any_of HT_.out Z0) (fun _ _ _ h => h) (Or.inl ⟨by rfl, ?_⟩) ?_ ?_
   rotate_left
   ·intro w'
    go_simp
    with_reducible rfl
   rotate_left
   ·simp only [Act.put, List.setIfInBounds_toArray, List.set_cons_zero, List.set_cons_succ, i64_w, i32_w]
    rfl
   refine pure_ (i := 7) (N := some 2) (v := ?_) (a' := ?_) #[true, true, true, true, true, true, true, true] rfl rfl (any_of HT_.out Z0) (fun _ _ _ h => h) (Or.inl ⟨by rfl, ?_⟩) ?_ ?_
   rotate_left
   ·intro w'
    go_simp
    with_reducible rfl
   rotate_left
   ·simp only [Act.put, List.setIfInBounds_toArray, List.set_cons_zero, List.set_cons_succ, i64_w, i32_w]
    rfl
   refine done_ (done_of HT_.out Z0) ?_
   try go_wp2
   go_ret
   exact ⟨Z91, Z90⟩
  obtain ⟨c28b0, c28b1⟩ := Yn c28; replace H := Yd H; obtain ⟨t193, A38, H⟩ := H; (try dsimp only at H); replace H := Yg H; obtain ⟨c39, H⟩ := H; have c39b0 := eq_true c39; have c39b1 := decide_eq_true c39
  try have c39b2 : (9223372036854775807 < t193.size + a0_1.size) = False := eq_false (Nat.not_lt.2 c39)
  obtain rfl := Option.some.inj H; go_enter Tryz.func21, Tryz.ntmps21
  try go_wp2_with (first | ((with_reducible refine gate_dst (N := 1) rfl ?_); refine box_event (by rfl) (N := 1) (by rfl) (cs := #[.int .i64 a0_0, .string a0_1, .int .i32 a0_2, .bool a0_3, .int .u32 a0_4]) (t := 46) Z4 ?_; intro gb187 hg w40 hbox hb; have BK187 := Z (hbox); have GW187 := Z ((Z124 : w.heap.size ≤ gb187)); have GE187 := Z ((Z124 : w.heap.size ≤ gb187)); replace HB := Z (below_step Z90 hb); clear hb hbox hg; have hcz41 := Yb5 BK187.out) | ((with_reducible refine gate_callee (f := 44) rfl ?_); refine goesL_ (some 5) rfl rfl Tryz.func44 Z0 rfl #[.agg #[.int .i64 a0_0, .string a0_1, .int .i32 a0_2, .bool a0_3, .int .u32 a0_4]] rfl Z8 ?_; (with_reducible refine (impl_ItemOk.calls k a0_0 a0_1 a0_2 a0_3 a0_4 true _ A2.out).mono ?_); rintro e w42 ⟨rfl, hb⟩; refine ⟨_, rfl, ?_⟩; replace BK187 := Z (Yk BK187 hb); replace HB := Z (below_step Z90 hb); (try clear hb); (try clear hb2); (try clear hk); (try clear hi); have hcz43 := Yb5 BK187.out))
  have n0_ := Z (blk_drew BK187.out); have n1_ := Z (below_drew1 HB.out); clear BK187; clear HB; have BK187 := n0_; have HB := n1_; clear n0_ n1_; refine start_ (n := 7) (S := fun w' => w'.cell? ⟨gb187, 0, none⟩ = some (.int .i64 a0_0) ∧ w'.cell? ⟨gb187, 1, none⟩ = some (.string a0_1) ∧ w'.cell? ⟨gb187, 2, none⟩ = some (.int .i32 a0_2) ∧ w'.cell? ⟨gb187, 3, none⟩ = some (.bool a0_3) ∧ w'.cell? ⟨gb187, 4, none⟩ = some (.int .u32 a0_4)) (ds := []) #[false, false, false, false, false, false, false] Z0 rfl rfl ⟨(blk_cell BK187.out 0).trans rfl, (blk_cell BK187.out 1).trans rfl, (blk_cell BK187.out 2).trans rfl, (blk_cell BK187.out 3).trans rfl, (blk_cell BK187.out 4).trans rfl⟩ (fun hHeld => ?_)
  generalize w42.drew = w44 at BK187 HB hHeld ⊢; refine pure_ (i := 0) (N := some 46) (v := ?_) (a' := ?_) #[true, false, false, false, false, false, false] rfl rfl Z0 (fun _ _ _ h => h) (Or.inl ⟨by rfl, ?_⟩) ?_ ?_
  rotate_left
  ·intro w'
   go_simp
   with_reducible rfl
  rotate_left
  ·simp only [Act.put, List.setIfInBounds_toArray, List.set_cons_zero, List.set_cons_succ, i64_w, i32_w]
   rfl
  refine pure_ (i := 3) (N := some 49) (v := ?_) (a' := ?_) #[true, false, false, true, false, false, false] rfl rfl Z0 (fun _ _ _ h => h) (Or.inl ⟨by rfl, ?_⟩) ?_ ?_
  rotate_left
  ·intro w'
   go_simp
   with_reducible rfl
  rotate_left
  ·simp only [Act.put, List.setIfInBounds_toArray, List.set_cons_zero, List.set_cons_succ, i64_w, i32_w]
   rfl
  refine take_ (i := 1) (N := some 47) (v := ?_) (a' := ?_) #[true, true, false, true, false, false, false] rfl rfl Z0 (fun _ _ _ h => h) (Or.inl ⟨by rfl, ?_⟩) hHeld ?_ ?_
  rotate_left
  ·rintro w' ⟨s0, s1, s2, s3, s4⟩
   go_simp
   with_reducible rfl
  rotate_left
  ·simp only [Act.put, List.setIfInBounds_toArray, List.set_cons_zero, List.set_cons_succ, i64_w, i32_w]
   rfl
  refine take_ (i := 4) (N := some 50) (v := ?_) (a' := ?_) #[true, true, false, true, true, false, false] rfl rfl Z0 (fun _ _ _ h => h) (Or.inl ⟨by rfl, ?_⟩) hHeld ?_ ?_
  rotate_left
  ·rintro w' ⟨s0, s1, s2, s3, s4⟩
   go_simp
   with_reducible rfl
  rotate_left
  ·simp only [Act.put, List.setIfInBounds_toArray, List.set_cons_zero, List.set_cons_succ, i64_w, i32_w]
   rfl
  refine one_ (i := 2) (N := some 48) #[true, true, true, true, true, false, false] rfl rfl Z0 (by decide) (fun K hK => ?_)
  refine goes_ Tryz.func47 Z0 rfl #[.int .i64 a0_0] (by rfl) rfl rfl Z8 ?_
  with_reducible refine (impl_mark.calls a0_0 t193 _ A38.out).mono ?_
  rintro e w' ⟨rfl, ⟨nd, rfl⟩⟩; refine ⟨_, rfl, ?_⟩
  refine hK.out _ _ ⟨(blk_cell BK187.out 0).trans rfl, (blk_cell BK187.out 1).trans rfl, (blk_cell BK187.out 2).trans rfl, (blk_cell BK187.out 3).trans rfl, (blk_cell BK187.out 4).trans rfl⟩ (fun hHeld => ?_)
  clear hK K; refine norm_ (a' := ?_) ?_ ?_
  rotate_left
  ·show Act.put _ (some 48) _ = _
   simp only [Act.put, List.setIfInBounds_toArray, List.set_cons_zero, List.set_cons_succ, i64_w, i32_w]
   rfl
  refine pure_ (i := 5) (N := some 51) (v := ?_) (a' := ?_) #[true, true, true, true, true, true, false] rfl rfl Z0 (fun _ _ _ h => h) (Or.inl ⟨by rfl, ?_⟩) ?_ ?_
  rotate_left
  ·intro w'
   go_simp
   with_reducible rfl
  rotate_left
  ·simp only [Act.put, List.setIfInBounds_toArray, List.set_cons_zero, List.set_cons_succ, i64_w, i32_w]
   rfl
  refine pure_ (i := 6) (N := some 2) (v := ?_) (a' := ?_) #[true, true, true, true, true, true, true] rfl rfl Z0 (fun _ _ _ h => h) (Or.inl ⟨by rfl, ?_⟩) ?_ ?_
  rotate_left
  ·intro w'
   go_simp
   with_reducible rfl
  rotate_left
  ·simp only [Act.put, List.setIfInBounds_toArray, List.set_cons_zero, List.set_cons_succ, i64_w, i32_w]
   rfl
  refine done_ Z0 ?_
  try go_wp2
  go_ret
  exact ⟨Z91, Z90⟩
 replace c3 := Bool.eq_false_iff.mpr c3; subst c3; replace H := Yf H; obtain rfl := Option.some.inj H; go_enter Tryz.func21, Tryz.ntmps21
 go_wp2_with (first | ((with_reducible refine gate_dst (N := 1) rfl ?_); refine box_event (by rfl) (N := 1) (by rfl) (cs := #[.int .i64 a0_0, .string a0_1, .int .i32 a0_2, .bool a0_3, .int .u32 a0_4]) (t := 46) Z4 ?_; intro gb187 hg w45 hbox hb; have BK187 := Z (hbox); have GW187 := Z ((Z124 : w.heap.size ≤ gb187)); have GE187 := Z ((Z124 : w.heap.size ≤ gb187)); replace HB := Z (below_step Z90 hb); clear hb hbox hg; have hcz46 := Yb5 BK187.out) | ((with_reducible refine gate_callee (f := 44) rfl ?_); refine goesL_ (some 5) rfl rfl Tryz.func44 Z0 rfl #[.agg #[.int .i64 a0_0, .string a0_1, .int .i32 a0_2, .bool a0_3, .int .u32 a0_4]] rfl Z8 ?_; (with_reducible refine (impl_ItemOk.calls k a0_0 a0_1 a0_2 a0_3 a0_4 false _ A2.out).mono ?_); rintro e w47 ⟨rfl, hb⟩; refine ⟨_, rfl, ?_⟩; replace BK187 := Z (Yk BK187 hb); replace HB := Z (below_step Z90 hb); (try clear hb); (try clear hb2); (try clear hk); (try clear hi)))
 go_ret
 exact ⟨Z91, Z90⟩

def impl_ReadHex.f (a0 : ByteArray) : Option (Int × Bool) := if a0.size ≤ 281474976710656 then some (ParseHex.v a0.data.toList) else none
theorem impl_ReadHex.calls (a0 : ByteArray) (r0 : Int) (r1 : Bool) (w : World) (h : impl_ReadHex.f a0 = some (r0, r1)) (HT0 : Aside0 (Atoi.Tab w)) :
  Calls Tryz.prog 79 #[.string a0] w fun e w' => e = .returned (.tuple #[.int .u32 r0, .bool r1]) ∧ Below w.heap.size w w' := by
 unfold impl_ReadHex.f at h
 split at h
 case isFalse => cases h
 rename_i hs
 have hr := Option.some.inj h; obtain ⟨rfl, rfl⟩ : r0 = (ParseHex.v a0.data.toList).1 ∧ r1 = (ParseHex.v a0.data.toList).2 := by rw [hr]; exact ⟨rfl, rfl⟩
 exact ParseHex.readHex a0 hs w HT0.out

def stringslite_Index.f (a0 : ByteArray) (a1 : ByteArray) : Option (Int) := match a1.data.toList with
 | [c] => some (Lib.indexByte a0.data.toList c)
 | _ => none
set_option maxHeartbeats 4000000 in
set_option maxRecDepth 100000 in
theorem stringslite_Index.calls (a0 : ByteArray) (a1 : ByteArray) (r : Int) (w : World) (h : stringslite_Index.f a0 a1 = some r) :
  Calls Tryz.prog 107 #[.string a0, .string a1] w fun e w' => e = .returned (.int .i64 r) ∧ Drawn0 w w' := by
 obtain ⟨c, rfl⟩ : ∃ c, a1 = ⟨#[c]⟩ := by
  unfold stringslite_Index.f at h
  split at h
  ·rename_i c hc
   exact ⟨c, ByteArray.ext (Array.toList_inj.1 hc)⟩
  ·cases h
 obtain rfl : (Lib.indexByte a0.data.toList c : Int) = r := Option.some.inj h; clear h
 have key : ∀ w, Calls Tryz.prog 131 #[.string a0, .int .u8 c.toNat] w fun e w' => e = .returned (.int .i64 (Lib.indexByte a0.data.toList c)) ∧ w' = w := by
  intro w; go_enter Tryz.func131, Tryz.ntmps131
  go_wp2
  rw [run_callFunc_extern Tryz.func153 Z0 Z0 Z0 (e := Extern.BytealgIndexByte.indexByte) Z0, Lib.run_indexByteString]; simp only [Result.andThen]; rw [Oper.upon_value]
  go_wp2
  go_ret
  refine ⟨by simp, rfl⟩
 go_enter Tryz.func107, Tryz.ntmps107
 go_wp2_with (go_at_call 131; refine (key _).mono ?_; rintro e w' ⟨rfl, rfl⟩)
 ·have h : ([c] == a0.toList) = true := by assumption
  go_ret
  refine ⟨?_, Drawn0.refl _⟩
  have e : a0.data.toList = [c] := by rw [← Lib.toList_data]; exact (beq_iff_eq.1 h).symm
  rw [e]
  simp [Lib.indexByte]
 ·go_ret
  exact ⟨rfl, Drawn0.refl _⟩

def stringslite_Cut.f (a0 : ByteArray) (a1 : ByteArray) : Option (ByteArray × ByteArray × Bool) := (stringslite_Index.f a0 a1).bind fun t194 => (if t194 ≥ 0 then (if 0 ≤ t194 then (if t194 ≤ (a0.size : Int) then (if 0 ≤ (wrap64 (t194 + (a1.size : Int))) then (if (wrap64 (t194 + (a1.size : Int))) ≤ (a0.size : Int) then (some (a0.extract 0 (t194 : Int).toNat, a0.extract ((wrap64 (t194 + (a1.size : Int))) : Int).toNat a0.size, true)) else (none)) else (none)) else (none)) else (none)) else (some (a0, (⟨#[]⟩ : ByteArray), false)))
theorem stringslite_Cut.calls (a0 : ByteArray) (a1 : ByteArray) (r1 : ByteArray) (r2 : ByteArray) (r3 : Bool) (w : World) (h : stringslite_Cut.f a0 a1 = some (r1, r2, r3)) :
  Calls Tryz.prog 104 #[.string a0, .string a1] w fun e w' => e = .returned (.tuple #[.string r1, .string r2, .bool r3]) ∧ Drawn0 w w' := by
 unfold stringslite_Cut.f at h; have H := h; clear h; replace H := Yd H; obtain ⟨t194, A3, H⟩ := H; (try dsimp only at H); replace H := Yi H; rcases H with ⟨c4, H⟩ | ⟨c4, H⟩
 ·have c4b0 : decide (0 ≤ t194) = true := decide_eq_true c4; clear c4; replace H := Yg H; obtain ⟨c5, H⟩ := H; have c5b0 := eq_true c5; have c5b1 := decide_eq_true c5; clear c5; replace H := Yg H; obtain ⟨c6, H⟩ := H; have c6b0 := eq_true c6; have c6b1 := decide_eq_true c6; clear c6; obtain ⟨ji7, hji7⟩ : ∃ j_ : Int, (wrap64 (t194 + (a1.size : Int))) = j_ := ⟨_, rfl⟩; replace H : (if 0 ≤ (ji7) then (if (ji7) ≤ (a0.size : Int) then (some (a0.extract 0 (t194 : Int).toNat, a0.extract ((ji7) : Int).toNat a0.size, true)) else (none)) else (none)) = some (r1, r2, r3) := Z22
  (try rw [hji7] at A3)
  have hji7w : (IntKind.i64.wrap (t194 + (a1.size : Int))) = ji7 := (i64_w _).trans hji7; replace H := Yg H; obtain ⟨c8, H⟩ := H; have c8b0 := eq_true c8; have c8b1 := decide_eq_true c8; clear c8; replace H := Yg H; obtain ⟨c9, H⟩ := H; have c9b0 := eq_true c9; have c9b1 := decide_eq_true c9; clear c9; simp only [Option.some.injEq, Prod.mk.injEq] at H; obtain ⟨rfl, rfl, rfl⟩ := H; go_enter Tryz.func104, Tryz.ntmps104
  go_wp2_with (first | (go_at_call 107; (with_reducible refine (stringslite_Index.calls a0 a1 t194 _ A3.out).mono ?_); rintro e w' ⟨rfl, ⟨nd, rfl⟩⟩; (try first | exact ⟨rfl, _, World.drewN_drewN _ _ _⟩ | exact ⟨rfl, _, Eq.trans (World.drewN_drewN _ _ _) (congrArg (World.drewN _) (Nat.add_assoc _ _ _))⟩)))
  repeat (go_quiet (first | (go_at_call 107; (with_reducible refine (stringslite_Index.calls a0 a1 t194 _ A3.out).mono ?_); rintro e w' ⟨rfl, ⟨nd, rfl⟩⟩; (try first | exact ⟨rfl, _, World.drewN_drewN _ _ _⟩ | exact ⟨rfl, _, Eq.trans (World.drewN_drewN _ _ _) (congrArg (World.drewN _) (Nat.add_assoc _ _ _))⟩))); try go_wp2_with (first | (go_at_call 107; (with_reducible refine (stringslite_Index.calls a0 a1 t194 _ A3.out).mono ?_); rintro e w' ⟨rfl, ⟨nd, rfl⟩⟩; (try first | exact ⟨rfl, _, World.drewN_drewN _ _ _⟩ | exact ⟨rfl, _, Eq.trans (World.drewN_drewN _ _ _) (congrArg (World.drewN _) (Nat.add_assoc _ _ _))⟩))))
  go_ret3
  exact ⟨Z23, Z3⟩
 have c4b0 : decide (0 ≤ t194) = false := decide_eq_false c4; clear c4; simp only [Option.some.injEq, Prod.mk.injEq] at H; obtain ⟨rfl, rfl, rfl⟩ := H; go_enter Tryz.func104, Tryz.ntmps104
 go_wp2_with (first | (go_at_call 107; (with_reducible refine (stringslite_Index.calls a0 a1 t194 _ A3.out).mono ?_); rintro e w' ⟨rfl, ⟨nd, rfl⟩⟩; (try first | exact ⟨rfl, _, World.drewN_drewN _ _ _⟩ | exact ⟨rfl, _, Eq.trans (World.drewN_drewN _ _ _) (congrArg (World.drewN _) (Nat.add_assoc _ _ _))⟩)))
 repeat (go_quiet (first | (go_at_call 107; (with_reducible refine (stringslite_Index.calls a0 a1 t194 _ A3.out).mono ?_); rintro e w' ⟨rfl, ⟨nd, rfl⟩⟩; (try first | exact ⟨rfl, _, World.drewN_drewN _ _ _⟩ | exact ⟨rfl, _, Eq.trans (World.drewN_drewN _ _ _) (congrArg (World.drewN _) (Nat.add_assoc _ _ _))⟩))); try go_wp2_with (first | (go_at_call 107; (with_reducible refine (stringslite_Index.calls a0 a1 t194 _ A3.out).mono ?_); rintro e w' ⟨rfl, ⟨nd, rfl⟩⟩; (try first | exact ⟨rfl, _, World.drewN_drewN _ _ _⟩ | exact ⟨rfl, _, Eq.trans (World.drewN_drewN _ _ _) (congrArg (World.drewN _) (Nat.add_assoc _ _ _))⟩))))
 go_ret3
 exact ⟨Z2, Z3⟩

def strings_Cut.f (a0 : ByteArray) (a1 : ByteArray) : Option (ByteArray × ByteArray × Bool) := (stringslite_Cut.f a0 a1).bind fun bt195 => (some (bt195.1, bt195.2.1, bt195.2.2))
theorem strings_Cut.calls (a0 : ByteArray) (a1 : ByteArray) (r1 : ByteArray) (r2 : ByteArray) (r3 : Bool) (w : World) (h : strings_Cut.f a0 a1 = some (r1, r2, r3)) :
  Calls Tryz.prog 80 #[.string a0, .string a1] w fun e w' => e = .returned (.tuple #[.string r1, .string r2, .bool r3]) ∧ Drawn0 w w' := by
 unfold strings_Cut.f at h; have H := h; clear h; replace H := Yd H; obtain ⟨⟨t195, t196, t197⟩, A3, H⟩ := H; (try dsimp only at H); simp only [Option.some.injEq, Prod.mk.injEq] at H; obtain ⟨rfl, rfl, rfl⟩ := H; go_enter Tryz.func80, Tryz.ntmps80
 go_wp2_with (first | ((with_reducible refine gate_callee (f := 104) rfl ?_); refine goesL_ (some 9) rfl rfl Tryz.func104 Z0 rfl #[.string a0, .string a1] rfl Z8 ?_; (with_reducible refine (stringslite_Cut.calls a0 a1 t195 t196 t197 _ A3.out).mono ?_); rintro e w' ⟨rfl, ⟨nd, rfl⟩⟩; refine ⟨_, rfl, ?_⟩))
 go_ret3
 exact ⟨Z2, Z3⟩

def impl_ReadDec.v (l : List UInt8) : Int × Bool := match Lib.atoiAll l with
 | .ok v => if (-9999999999 ≤ v ∧ v ≤ 9999999999) ∧ Lib.itoa v = l then (v, true) else (0, false)
 | _ => (0, false)
def impl_ReadDec.f (a0 : ByteArray) : Option (Int × Bool) := if a0.size ≤ 281474976710656 then some (impl_ReadDec.v a0.data.toList) else none
set_option maxHeartbeats 4000000 in
set_option maxRecDepth 100000 in
theorem impl_ReadDec.calls (a0 : ByteArray) (r0 : Int) (r1 : Bool) (w : World) (h : impl_ReadDec.f a0 = some (r0, r1)) (HT0 : Aside0 (Atoi.Tab w)) :
  Calls Tryz.prog 105 #[.string a0] w fun e w' => e = .returned (.tuple #[.int .i64 r0, .bool r1]) ∧ Below w.heap.size w w' := by
 unfold impl_ReadDec.f at h
 split at h
 case isFalse => cases h
 rename_i hs
 have hr := Option.some.inj h; clear h; obtain ⟨rfl, rfl⟩ : r0 = (impl_ReadDec.v a0.data.toList).1 ∧ r1 = (impl_ReadDec.v a0.data.toList).2 := by rw [hr]; exact ⟨rfl, rfl⟩
 clear hr; have HS := Aside0.mk hs; clear hs; by_cases hv : ∃ v, Lib.atoiAll a0.data.toList = .ok v
 ·obtain ⟨v, hv⟩ := hv; unfold impl_ReadDec.v; rw [hv]; have HV := Aside0.mk hv; clear hv; by_cases c1 : v < -9999999999
  ·have e1 : (if (-9999999999 ≤ v ∧ v ≤ 9999999999) ∧ Lib.itoa v = a0.data.toList then (v, true) else (0, false)) = ((0 : Int), false) := if_neg (fun h => by omega); have b1 : decide (v < -9999999999) = true := decide_eq_true c1; simp only [e1]; clear c1 e1; go_enter Tryz.func105, Tryz.ntmps105
   go_wp2_with (go_at_call 129; refine (Atoi.ok a0 HS.out v HV.out _).mono ?_; rintro e w1 ⟨rfl, hb⟩)
   go_ret2
   exact ⟨rfl, hb⟩
  have b1 : decide (v < -9999999999) = false := decide_eq_false c1; by_cases c2 : v > 9999999999
  ·have e1 : (if (-9999999999 ≤ v ∧ v ≤ 9999999999) ∧ Lib.itoa v = a0.data.toList then (v, true) else (0, false)) = ((0 : Int), false) := if_neg (fun h => by omega); have b2 : decide (v > 9999999999) = true := decide_eq_true c2; have b3 : decide (9999999999 < v) = true := decide_eq_true c2; simp only [e1]; clear c1 c2 e1; go_enter Tryz.func105, Tryz.ntmps105
   go_wp2_with (go_at_call 129; refine (Atoi.ok a0 HS.out v HV.out _).mono ?_; rintro e w1 ⟨rfl, hb⟩)
   go_ret2
   exact ⟨rfl, hb⟩
  have b2 : decide (v > 9999999999) = false := decide_eq_false c2; have b3 : decide (9999999999 < v) = false := decide_eq_false c2; have HI := Z (show -9223372036854775808 ≤ v ∧ v ≤ 9223372036854775807 by omega); by_cases c3 : Lib.itoa v = a0.data.toList
  ·have e1 : (if (-9999999999 ≤ v ∧ v ≤ 9999999999) ∧ Lib.itoa v = a0.data.toList then (v, true) else (0, false)) = (v, true) := if_pos ⟨by omega, c3⟩; have hx : (⟨(Lib.itoa v).toArray⟩ : ByteArray) = a0 := ByteArray.ext (Array.toList_inj.1 (by simpa using c3)); have HX := Aside0.mk hx; simp only [e1]; clear c1 c2 c3 e1 hx; go_enter Tryz.func105, Tryz.ntmps105
   go_wp2_with (first | (go_at_call 129; refine (Atoi.ok a0 HS.out v HV.out _).mono ?_; rintro e w1 ⟨rfl, hb⟩) | (go_at_call 78; refine (Itoa.decText v a0 HX.out HI.out.1 HI.out.2 _ (Itoa.tab_at HT0.out.1 hb)).mono ?_; rintro e w2 ⟨rfl, hb2⟩; have hb3 := hb.trans (hb2.mono hb.size); clear hb2))
   go_ret2
   exact ⟨rfl, hb3⟩
  have e1 : (if (-9999999999 ≤ v ∧ v ≤ 9999999999) ∧ Lib.itoa v = a0.data.toList then (v, true) else (0, false)) = ((0 : Int), false) := if_neg (fun h => c3 h.2); obtain ⟨t, ht⟩ : ∃ t : ByteArray, t = ⟨(Lib.itoa v).toArray⟩ := ⟨_, rfl⟩
  have b4 : (t.toList == a0.toList) = false := by
   rw [beq_eq_false_iff_ne, ByteArray.toList_eq, ByteArray.toList_eq, ht]
   simpa using c3
  have b5 : (t.toList != a0.toList) = true := by rw [bne, b4]; rfl
  have HX := Aside0.mk ht.symm; simp only [e1]; clear c1 c2 c3 e1 ht; go_enter Tryz.func105, Tryz.ntmps105
  go_wp2_with (first | (go_at_call 129; refine (Atoi.ok a0 HS.out v HV.out _).mono ?_; rintro e w1 ⟨rfl, hb⟩) | (go_at_call 78; refine (Itoa.decText v t HX.out HI.out.1 HI.out.2 _ (Itoa.tab_at HT0.out.1 hb)).mono ?_; rintro e w2 ⟨rfl, hb2⟩; have hb3 := hb.trans (hb2.mono hb.size); clear hb2))
  go_ret2
  exact ⟨rfl, hb3⟩
 ·have hv' : ∀ v, Lib.atoiAll a0.data.toList ≠ .ok v := fun v h => hv ⟨v, h⟩
  have e1 : impl_ReadDec.v a0.data.toList = (0, false) := by
   unfold impl_ReadDec.v
   split
   ·rename_i h; exact absurd h (hv' _)
   ·rfl
  have HV := Aside0.mk hv'; simp only [e1]; clear hv hv' e1; go_enter Tryz.func105, Tryz.ntmps105
  go_wp2_with (go_at_call 129; refine (Atoi.bad a0 HS.out HV.out _ HT0.out).mono ?_; rintro e w1 ⟨⟨n_, t_, N_, rfl⟩, hb⟩)
  go_ret2
  exact ⟨rfl, hb⟩

def impl_small.f (a0 : ByteArray) : Option (Int × Bool) := (impl_ReadDec.f a0).bind fun bt198 => (if bt198.2 = true then (some (wrap32 (bt198.1), (bt198.1 == (wrap64 (wrap32 (bt198.1)))))) else (some (wrap32 (bt198.1), false)))
theorem impl_small.calls (a0 : ByteArray) (r1 : Int) (r2 : Bool) (w : World) (h : impl_small.f a0 = some (r1, r2)) (HT0 : Aside0 (Atoi.Tab w)) :
  Calls Tryz.prog 81 #[.string a0] w fun e w' => e = .returned (.tuple #[.int .i32 r1, .bool r2]) ∧ Below w.heap.size w w' := by
 have HB := Z (Below.refl w.heap.size w); unfold impl_small.f at h; have H := h; clear h; replace H := Yd H; obtain ⟨⟨t198, t199⟩, A2, H⟩ := H; (try dsimp only at H); by_cases c3 : t199 = true
 ·subst c3; replace H := Yt H; simp only [Option.some.injEq, Prod.mk.injEq] at H; obtain ⟨rfl, rfl⟩ := H; go_enter Tryz.func81, Tryz.ntmps81
  go_wp2_with (first | ((with_reducible refine gate_callee (f := 105) rfl ?_); refine goesL_ (some 8) rfl rfl Tryz.func105 Z0 rfl #[.string a0] rfl Z8 ?_; (with_reducible refine (impl_ReadDec.calls a0 t198 true _ A2.out ⟨Atoi.tab_at HT0.out Z92⟩).mono ?_); rintro e w4 ⟨rfl, hb⟩; refine ⟨_, rfl, ?_⟩; replace HB := Z (below_step Z90 hb); (try clear hb); (try clear hb2); (try clear hk); (try clear hi)))
  go_ret2
  exact ⟨Z91, Z90⟩
 replace c3 := Bool.eq_false_iff.mpr c3; subst c3; replace H := Yf H; simp only [Option.some.injEq, Prod.mk.injEq] at H; obtain ⟨rfl, rfl⟩ := H; go_enter Tryz.func81, Tryz.ntmps81
 go_wp2_with (first | ((with_reducible refine gate_callee (f := 105) rfl ?_); refine goesL_ (some 8) rfl rfl Tryz.func105 Z0 rfl #[.string a0] rfl Z8 ?_; (with_reducible refine (impl_ReadDec.calls a0 t198 false _ A2.out ⟨Atoi.tab_at HT0.out Z92⟩).mono ?_); rintro e w5 ⟨rfl, hb⟩; refine ⟨_, rfl, ?_⟩; replace HB := Z (below_step Z90 hb); (try clear hb); (try clear hb2); (try clear hk); (try clear hi)))
 go_ret2
 exact ⟨Z91, Z90⟩

def stringslite_HasPrefix.f (a0 : ByteArray) (a1 : ByteArray) : Option (Bool) := if (a0.size : Int) ≥ (a1.size : Int) then (if 0 ≤ (a1.size : Int) then (if (a1.size : Int) ≤ (a0.size : Int) then (some ((a0.extract 0 ((a1.size : Int) : Int).toNat).toList == a1.toList)) else (none)) else (none)) else (some false)
theorem stringslite_HasPrefix.calls (a0 : ByteArray) (a1 : ByteArray) (r : Bool) (w : World) (h : stringslite_HasPrefix.f a0 a1 = some r) :
  Calls Tryz.prog 130 #[.string a0, .string a1] w fun e w' => e = .returned (.bool r) ∧ Drawn0 w w' := by
 unfold stringslite_HasPrefix.f at h; have H := h; clear h; replace H := Yi H; rcases H with ⟨c3, H⟩ | ⟨c3, H⟩
 ·have c3b0 : decide ((a1.size : Int) ≤ (a0.size : Int)) = true := decide_eq_true c3; have c3b1 : decide (a1.size ≤ a0.size) = true := decide_eq_true (Int.ofNat_le.mp c3); clear c3; replace H := Yg H; obtain ⟨c4, H⟩ := H; have c4b0 := eq_true c4; have c4b1 := decide_eq_true c4; clear c4; replace H := Yg H; obtain ⟨c5, H⟩ := H; have c5b0 := eq_true c5; have c5b1 := decide_eq_true c5; clear c5; obtain rfl := Option.some.inj H; go_enter Tryz.func130, Tryz.ntmps130
  go_wp2
  go_ret
  exact ⟨Z2, Z3⟩
 have c3b0 : decide ((a1.size : Int) ≤ (a0.size : Int)) = false := decide_eq_false c3; have c3b1 : decide (a1.size ≤ a0.size) = false := decide_eq_false (fun h => c3 (Int.ofNat_le.mpr h)); clear c3; obtain rfl := Option.some.inj H; go_enter Tryz.func130, Tryz.ntmps130
 go_wp2
 go_ret
 exact ⟨Z2, Z3⟩

def stringslite_CutPrefix.f (a0 : ByteArray) (a1 : ByteArray) : Option (ByteArray × Bool) := (stringslite_HasPrefix.f a0 a1).bind fun t200 => (if t200 = true then (if 0 ≤ (a1.size : Int) then (if (a1.size : Int) ≤ (a0.size : Int) then (some (a0.extract ((a1.size : Int) : Int).toNat a0.size, true)) else (none)) else (none)) else (some (a0, false)))
theorem stringslite_CutPrefix.calls (a0 : ByteArray) (a1 : ByteArray) (r1 : ByteArray) (r2 : Bool) (w : World) (h : stringslite_CutPrefix.f a0 a1 = some (r1, r2)) :
  Calls Tryz.prog 106 #[.string a0, .string a1] w fun e w' => e = .returned (.tuple #[.string r1, .bool r2]) ∧ Drawn0 w w' := by
 unfold stringslite_CutPrefix.f at h; have H := h; clear h; replace H := Yd H; obtain ⟨t200, A3, H⟩ := H; (try dsimp only at H); by_cases c4 : t200 = true
 ·subst c4; replace H := Yt H; replace H := Yg H; obtain ⟨c5, H⟩ := H; have c5b0 := eq_true c5; have c5b1 := decide_eq_true c5; clear c5; replace H := Yg H; obtain ⟨c6, H⟩ := H; have c6b0 := eq_true c6; have c6b1 := decide_eq_true c6; clear c6; simp only [Option.some.injEq, Prod.mk.injEq] at H; obtain ⟨rfl, rfl⟩ := H; go_enter Tryz.func106, Tryz.ntmps106
  go_wp2_with (first | ((with_reducible refine gate_callee (f := 130) rfl ?_); refine goesL_ (some 8) rfl rfl Tryz.func130 Z0 rfl #[.string a0, .string a1] rfl Z8 ?_; (with_reducible refine (stringslite_HasPrefix.calls a0 a1 true _ A3.out).mono ?_); rintro e w' ⟨rfl, ⟨nd, rfl⟩⟩; refine ⟨_, rfl, ?_⟩))
  go_ret2
  exact ⟨Z2, Z3⟩
 replace c4 := Bool.eq_false_iff.mpr c4; subst c4; replace H := Yf H; simp only [Option.some.injEq, Prod.mk.injEq] at H; obtain ⟨rfl, rfl⟩ := H; go_enter Tryz.func106, Tryz.ntmps106
 go_wp2_with (first | ((with_reducible refine gate_callee (f := 130) rfl ?_); refine goesL_ (some 8) rfl rfl Tryz.func130 Z0 rfl #[.string a0, .string a1] rfl Z8 ?_; (with_reducible refine (stringslite_HasPrefix.calls a0 a1 false _ A3.out).mono ?_); rintro e w' ⟨rfl, ⟨nd, rfl⟩⟩; refine ⟨_, rfl, ?_⟩))
 go_ret2
 exact ⟨Z2, Z3⟩

def strings_CutPrefix.f (a0 : ByteArray) (a1 : ByteArray) : Option (ByteArray × Bool) := (stringslite_CutPrefix.f a0 a1).bind fun bt201 => (some (bt201.1, bt201.2))
theorem strings_CutPrefix.calls (a0 : ByteArray) (a1 : ByteArray) (r1 : ByteArray) (r2 : Bool) (w : World) (h : strings_CutPrefix.f a0 a1 = some (r1, r2)) :
  Calls Tryz.prog 82 #[.string a0, .string a1] w fun e w' => e = .returned (.tuple #[.string r1, .bool r2]) ∧ Drawn0 w w' := by
 unfold strings_CutPrefix.f at h; have H := h; clear h; replace H := Yd H; obtain ⟨⟨t201, t202⟩, A3, H⟩ := H; (try dsimp only at H); simp only [Option.some.injEq, Prod.mk.injEq] at H; obtain ⟨rfl, rfl⟩ := H; go_enter Tryz.func82, Tryz.ntmps82
 go_wp2_with (first | ((with_reducible refine gate_callee (f := 106) rfl ?_); refine goesL_ (some 8) rfl rfl Tryz.func106 Z0 rfl #[.string a0, .string a1] rfl Z8 ?_; (with_reducible refine (stringslite_CutPrefix.calls a0 a1 t201 t202 _ A3.out).mono ?_); rintro e w' ⟨rfl, ⟨nd, rfl⟩⟩; refine ⟨_, rfl, ?_⟩))
 go_ret2
 exact ⟨Z2, Z3⟩

mutual
def impl_readItem.j0 : Nat → ByteArray → ByteArray → Int → ByteArray → Int → Bool → Int → Option (Int × ByteArray × Int × Bool × Int)
 | 0, _, _, _, _, _, _, _ => none
 | k + 1, x3, x4, x212000, x212001, x212002, x212003, x212004 => (strings_CutPrefix.f x4 (⟨#[35]⟩ : ByteArray)).bind fun bt212 => (if bt212.2 = true then ((impl_small.f bt212.1).bind fun bt214 => (some (x212000, x212001, bt214.1, x212003, x212004))) else ((strings_CutPrefix.f x4 (⟨#[36]⟩ : ByteArray)).bind fun bt216 => (if bt216.2 = true then ((impl_ReadHex.f bt216.1).bind fun bt218 => (some (x212000, x212001, wrap32 (bt218.1), true, x212004))) else (impl_readItem.l0 k x3 x4 1))))
def impl_readItem.l0 : Nat → ByteArray → ByteArray → Int → Option (Int × ByteArray × Int × Bool × Int)
 | 0, _, _, _ => none
 | k + 1, x3, x4, x19 => if x19 ≤ 6 then ((impl_mark.f x19).bind fun t220 => (if t220.toList = x3.toList then (some (x19, x4, 0, false, 0)) else (impl_readItem.l0 k x3 x4 (wrap64 (x19 + 1))))) else (some (0, (⟨#[]⟩ : ByteArray), 0, false, 0))
end
def impl_readItem.f (k : Nat) (a0 : ByteArray) : Option (Int × ByteArray × Int × Bool × Int) := if 0 ≤ 1 then (if 1 ≤ (a0.size : Int) then (if (a0.extract 0 1).toList = ([37] : List UInt8) then ((impl_ReadHex.f (a0.extract 1 a0.size)).bind fun bt204 => (some (0, (⟨#[]⟩ : ByteArray), 0, false, bt204.1))) else (if (a0.extract 0 1).toList = ([38] : List UInt8) then ((strings_Cut.f (a0.extract 1 a0.size) (⟨#[35]⟩ : ByteArray)).bind fun bt206 => ((impl_small.f bt206.2.1).bind fun bt209 => (some (9, bt206.1, bt209.1, false, 0)))) else (if (a0.extract 0 1).toList = ([61] : List UInt8) then (impl_readItem.j0 k (a0.extract 0 1) (a0.extract 1 a0.size) 8 (⟨#[]⟩ : ByteArray) 0 false 0) else (impl_readItem.j0 k (a0.extract 0 1) (a0.extract 1 a0.size) 7 (⟨#[]⟩ : ByteArray) 0 false 0)))) else (none)) else (none)
theorem impl_readItem.calls (k : Nat) (a0 : ByteArray) (r1 : Int) (r2 : ByteArray) (r3 : Int) (r4 : Bool) (r5 : Int) (w : World) (h : impl_readItem.f k a0 = some (r1, r2, r3, r4, r5)) (HT0 : Aside0 (Atoi.Tab w)) :
  Calls Tryz.prog 49 #[.string a0] w fun e w' => e = .returned (.agg #[.int .i64 r1, .string r2, .int .i32 r3, .bool r4, .int .u32 r5]) ∧ Below w.heap.size w w' := by
 have hu46 := Tryz.underlying46; have HB := Z (Below.refl w.heap.size w); unfold impl_readItem.f at h; have H := h; clear h; replace H := Yg H; obtain ⟨c2, H⟩ := H; have c2b0 := eq_true c2; have c2b1 := decide_eq_true c2; clear c2; replace H := Yg H; obtain ⟨c3, H⟩ := H; have c3b0 := eq_true c3; have c3b1 := decide_eq_true c3; clear c3; have c4b0 := eq_true (of_decide_eq_true Z7 : 1 ≤ (a0.size : Int)); replace H := Yi H; rcases H with ⟨c5, H⟩ | ⟨c5, H⟩
 ·obtain ⟨c5b0, c5b1⟩ := Ye c5; clear c5; replace H := Yd H; obtain ⟨⟨t204, t205⟩, A6, H⟩ := H; (try dsimp only at H); simp only [Option.some.injEq, Prod.mk.injEq] at H; obtain ⟨rfl, rfl, rfl, rfl, rfl⟩ := H; go_enter Tryz.func49, Tryz.ntmps49
  go_wp2_with (first | ((with_reducible refine gate_dst (N := 2) rfl ?_); refine box_event (by rfl) (N := 2) (by rfl) (cs := #[.int .i64 0, .string (⟨#[]⟩ : ByteArray), .int .i32 0, .bool false, .int .u32 0]) (t := 46) Z4 ?_; intro gb203 hg w7 hbox hb; have BK203 := Z (hbox); have GW203 := Z ((Z124 : w.heap.size ≤ gb203)); have GE203 := Z ((Z124 : w.heap.size ≤ gb203)); replace HB := Z (below_step Z90 hb); clear hb hbox hg) | (go_at_call 79; (with_reducible refine (impl_ReadHex.calls (a0.extract 1 a0.size) t204 t205 _ A6.out ⟨Atoi.tab_at HT0.out Z92⟩).mono ?_); rintro e w8 ⟨rfl, hb⟩; replace BK203 := Z (Yk BK203 hb); replace HB := Z (below_step Z90 hb); (try clear hb); (try clear hb2); (try clear hk); (try clear hi); have hcz9 := Yb5 BK203.out))
  repeat (go_quiet (first | ((with_reducible refine gate_dst (N := 2) rfl ?_); refine box_event (by rfl) (N := 2) (by rfl) (cs := #[.int .i64 0, .string (⟨#[]⟩ : ByteArray), .int .i32 0, .bool false, .int .u32 0]) (t := 46) Z4 ?_; intro gb203 hg w7 hbox hb; have BK203 := Z (hbox); have GW203 := Z ((Z124 : w.heap.size ≤ gb203)); have GE203 := Z ((Z124 : w.heap.size ≤ gb203)); replace HB := Z (below_step Z90 hb); clear hb hbox hg) | (go_at_call 79; (with_reducible refine (impl_ReadHex.calls (a0.extract 1 a0.size) t204 t205 _ A6.out ⟨Atoi.tab_at HT0.out Z92⟩).mono ?_); rintro e w8 ⟨rfl, hb⟩; replace BK203 := Z (Yk BK203 hb); replace HB := Z (below_step Z90 hb); (try clear hb); (try clear hb2); (try clear hk); (try clear hi); have hcz9 := Yb5 BK203.out)); try go_wp2_with (first | ((with_reducible refine gate_dst (N := 2) rfl ?_); refine box_event (by rfl) (N := 2) (by rfl) (cs := #[.int .i64 0, .string (⟨#[]⟩ : ByteArray), .int .i32 0, .bool false, .int .u32 0]) (t := 46) Z4 ?_; intro gb203 hg w7 hbox hb; have BK203 := Z (hbox); have GW203 := Z ((Z124 : w.heap.size ≤ gb203)); have GE203 := Z ((Z124 : w.heap.size ≤ gb203)); replace HB := Z (below_step Z90 hb); clear hb hbox hg) | (go_at_call 79; (with_reducible refine (impl_ReadHex.calls (a0.extract 1 a0.size) t204 t205 _ A6.out ⟨Atoi.tab_at HT0.out Z92⟩).mono ?_); rintro e w8 ⟨rfl, hb⟩; replace BK203 := Z (Yk BK203 hb); replace HB := Z (below_step Z90 hb); (try clear hb); (try clear hb2); (try clear hk); (try clear hi); have hcz9 := Yb5 BK203.out)))
  refine bodyPost_ret (results_cell_row rfl _ _ gb203 46 #[.int .i64 0, .string (⟨#[]⟩ : ByteArray), .int .i32 0, .bool false, .int .u32 t204] (0, 0) _ rfl (Z24 BK203) Tryz.underlying46 rfl Z0) rfl ?_
  exact ⟨Z91, Z90⟩
 obtain ⟨c5b0, c5b1⟩ := Yn c5; replace H := Yi H; rcases H with ⟨c10, H⟩ | ⟨c10, H⟩
 ·obtain ⟨c10b0, c10b1⟩ := Ye c10; clear c10; replace H := Yd H; obtain ⟨⟨t206, t207, t208⟩, A11, H⟩ := H; (try dsimp only at H); replace H := Yd H; obtain ⟨⟨t209, t210⟩, A12, H⟩ := H; (try dsimp only at H); simp only [Option.some.injEq, Prod.mk.injEq] at H; obtain ⟨rfl, rfl, rfl, rfl, rfl⟩ := H; go_enter Tryz.func49, Tryz.ntmps49
  go_wp2_with (first | ((with_reducible refine gate_dst (N := 2) rfl ?_); refine box_event (by rfl) (N := 2) (by rfl) (cs := #[.int .i64 0, .string (⟨#[]⟩ : ByteArray), .int .i32 0, .bool false, .int .u32 0]) (t := 46) Z4 ?_; intro gb203 hg w13 hbox hb; have BK203 := Z (hbox); have GW203 := Z ((Z124 : w.heap.size ≤ gb203)); have GE203 := Z ((Z124 : w.heap.size ≤ gb203)); replace HB := Z (below_step Z90 hb); clear hb hbox hg) | (go_at_call 80; (with_reducible refine (strings_Cut.calls (a0.extract 1 a0.size) (⟨#[35]⟩ : ByteArray) t206 t207 t208 _ A11.out).mono ?_); rintro e w' ⟨rfl, ⟨nd, rfl⟩⟩; (try first | exact ⟨rfl, _, World.drewN_drewN _ _ _⟩ | exact ⟨rfl, _, Eq.trans (World.drewN_drewN _ _ _) (congrArg (World.drewN _) (Nat.add_assoc _ _ _))⟩)) | (go_at_call 81; (with_reducible refine (impl_small.calls t207 t209 t210 _ A12.out ⟨Atoi.tab_at HT0.out Z92⟩).mono ?_); rintro e w14 ⟨rfl, hb⟩; replace BK203 := Z (Yk BK203 hb); replace HB := Z (below_step Z90 hb); (try clear hb); (try clear hb2); (try clear hk); (try clear hi); have hcz15 := Yb5 BK203.out))
  repeat (go_quiet (first | ((with_reducible refine gate_dst (N := 2) rfl ?_); refine box_event (by rfl) (N := 2) (by rfl) (cs := #[.int .i64 0, .string (⟨#[]⟩ : ByteArray), .int .i32 0, .bool false, .int .u32 0]) (t := 46) Z4 ?_; intro gb203 hg w13 hbox hb; have BK203 := Z (hbox); have GW203 := Z ((Z124 : w.heap.size ≤ gb203)); have GE203 := Z ((Z124 : w.heap.size ≤ gb203)); replace HB := Z (below_step Z90 hb); clear hb hbox hg) | (go_at_call 80; (with_reducible refine (strings_Cut.calls (a0.extract 1 a0.size) (⟨#[35]⟩ : ByteArray) t206 t207 t208 _ A11.out).mono ?_); rintro e w' ⟨rfl, ⟨nd, rfl⟩⟩; (try first | exact ⟨rfl, _, World.drewN_drewN _ _ _⟩ | exact ⟨rfl, _, Eq.trans (World.drewN_drewN _ _ _) (congrArg (World.drewN _) (Nat.add_assoc _ _ _))⟩)) | (go_at_call 81; (with_reducible refine (impl_small.calls t207 t209 t210 _ A12.out ⟨Atoi.tab_at HT0.out Z92⟩).mono ?_); rintro e w14 ⟨rfl, hb⟩; replace BK203 := Z (Yk BK203 hb); replace HB := Z (below_step Z90 hb); (try clear hb); (try clear hb2); (try clear hk); (try clear hi); have hcz15 := Yb5 BK203.out)); try go_wp2_with (first | ((with_reducible refine gate_dst (N := 2) rfl ?_); refine box_event (by rfl) (N := 2) (by rfl) (cs := #[.int .i64 0, .string (⟨#[]⟩ : ByteArray), .int .i32 0, .bool false, .int .u32 0]) (t := 46) Z4 ?_; intro gb203 hg w13 hbox hb; have BK203 := Z (hbox); have GW203 := Z ((Z124 : w.heap.size ≤ gb203)); have GE203 := Z ((Z124 : w.heap.size ≤ gb203)); replace HB := Z (below_step Z90 hb); clear hb hbox hg) | (go_at_call 80; (with_reducible refine (strings_Cut.calls (a0.extract 1 a0.size) (⟨#[35]⟩ : ByteArray) t206 t207 t208 _ A11.out).mono ?_); rintro e w' ⟨rfl, ⟨nd, rfl⟩⟩; (try first | exact ⟨rfl, _, World.drewN_drewN _ _ _⟩ | exact ⟨rfl, _, Eq.trans (World.drewN_drewN _ _ _) (congrArg (World.drewN _) (Nat.add_assoc _ _ _))⟩)) | (go_at_call 81; (with_reducible refine (impl_small.calls t207 t209 t210 _ A12.out ⟨Atoi.tab_at HT0.out Z92⟩).mono ?_); rintro e w14 ⟨rfl, hb⟩; replace BK203 := Z (Yk BK203 hb); replace HB := Z (below_step Z90 hb); (try clear hb); (try clear hb2); (try clear hk); (try clear hi); have hcz15 := Yb5 BK203.out)))
  refine bodyPost_ret (results_cell_row rfl _ _ gb203 46 #[.int .i64 9, .string t206, .int .i32 t209, .bool false, .int .u32 0] (0, 0) _ rfl (by (with_reducible repeat (first | refine blk_drewN ?_ _ | refine blk_drew ?_ | refine blk_alloc ?_ _)); refine blk_put (cs := #[.int .i64 9, .string t206, .int .i32 t209, .bool false, .int .u32 0]) ?_ 4 _ rfl; (with_reducible repeat (first | refine blk_drewN ?_ _ | refine blk_drew ?_ | refine blk_alloc ?_ _)); refine blk_put (cs := #[.int .i64 9, .string t206, .int .i32 t209, .bool false, .int .u32 0]) ?_ 3 _ rfl; (with_reducible repeat (first | refine blk_drewN ?_ _ | refine blk_drew ?_ | refine blk_alloc ?_ _)); refine blk_put (cs := #[.int .i64 9, .string t206, .int .i32 0, .bool false, .int .u32 0]) ?_ 2 _ rfl; (with_reducible repeat (first | refine blk_drewN ?_ _ | refine blk_drew ?_ | refine blk_alloc ?_ _)); refine blk_put (cs := #[.int .i64 9, .string (⟨#[]⟩ : ByteArray), .int .i32 0, .bool false, .int .u32 0]) ?_ 1 _ rfl; (with_reducible repeat (first | refine blk_drewN ?_ _ | refine blk_drew ?_ | refine blk_alloc ?_ _)); refine blk_put (cs := #[.int .i64 0, .string (⟨#[]⟩ : ByteArray), .int .i32 0, .bool false, .int .u32 0]) ?_ 0 _ rfl; (with_reducible repeat (first | refine blk_drewN ?_ _ | refine blk_drew ?_ | refine blk_alloc ?_ _)); exact BK203.out) Tryz.underlying46 rfl Z0) rfl ?_
  exact ⟨Z91, Z90⟩
 obtain ⟨c10b0, c10b1⟩ := Yn c10; have HC16 := Aside0.mk H; clear H; go_enter Tryz.func49, Tryz.ntmps49
 go_upto_if 51 with (first | ((with_reducible refine gate_dst (N := 2) rfl ?_); refine box_event (by rfl) (N := 2) (by rfl) (cs := #[.int .i64 0, .string (⟨#[]⟩ : ByteArray), .int .i32 0, .bool false, .int .u32 0]) (t := 46) Z4 ?_; intro gb203 hg w17 hbox hb; have BK203 := Z (hbox); have GW203 := Z ((Z124 : w.heap.size ≤ gb203)); have GE203 := Z ((Z124 : w.heap.size ≤ gb203)); replace HB := Z (below_step Z90 hb); clear hb hbox hg) | ((with_reducible refine gate_dst (N := 12) rfl ?_); refine box_event (by rfl) (N := 12) (by rfl) (cs := #[.int .i64 0, .string (⟨#[]⟩ : ByteArray), .int .i32 0, .bool false, .int .u32 0]) (t := 46) Z4 ?_; intro gb211 hg w18 hbox hb; have BK211 := Z (hbox); have GW211 := Z ((Z124 : w.heap.size ≤ gb211)); have GE211 := Z ((Z124 : w.heap.size ≤ gb211)); replace HB := Z (below_step Z90 hb); have NB203_211 := Z ((Z93 : gb203 ≠ gb211)); have NB211_203 := Z ((Z94 : gb211 ≠ gb203)); replace BK203 := Z (Yk BK203 hb); clear hb hbox hg; have hnb19 := NB211_203.out; have hnc19 := NB203_211.out; have hcz20 := Yb5 BK211.out))
 repeat (go_quiet (first | ((with_reducible refine gate_dst (N := 2) rfl ?_); refine box_event (by rfl) (N := 2) (by rfl) (cs := #[.int .i64 0, .string (⟨#[]⟩ : ByteArray), .int .i32 0, .bool false, .int .u32 0]) (t := 46) Z4 ?_; intro gb203 hg w17 hbox hb; have BK203 := Z (hbox); have GW203 := Z ((Z124 : w.heap.size ≤ gb203)); have GE203 := Z ((Z124 : w.heap.size ≤ gb203)); replace HB := Z (below_step Z90 hb); clear hb hbox hg) | ((with_reducible refine gate_dst (N := 12) rfl ?_); refine box_event (by rfl) (N := 12) (by rfl) (cs := #[.int .i64 0, .string (⟨#[]⟩ : ByteArray), .int .i32 0, .bool false, .int .u32 0]) (t := 46) Z4 ?_; intro gb211 hg w18 hbox hb; have BK211 := Z (hbox); have GW211 := Z ((Z124 : w.heap.size ≤ gb211)); have GE211 := Z ((Z124 : w.heap.size ≤ gb211)); replace HB := Z (below_step Z90 hb); have NB203_211 := Z ((Z93 : gb203 ≠ gb211)); have NB211_203 := Z ((Z94 : gb211 ≠ gb203)); replace BK203 := Z (Yk BK203 hb); clear hb hbox hg; have hnb19 := NB211_203.out; have hnc19 := NB203_211.out; have hcz20 := Yb5 BK211.out)); go_upto_if 51 with (first | ((with_reducible refine gate_dst (N := 2) rfl ?_); refine box_event (by rfl) (N := 2) (by rfl) (cs := #[.int .i64 0, .string (⟨#[]⟩ : ByteArray), .int .i32 0, .bool false, .int .u32 0]) (t := 46) Z4 ?_; intro gb203 hg w17 hbox hb; have BK203 := Z (hbox); have GW203 := Z ((Z124 : w.heap.size ≤ gb203)); have GE203 := Z ((Z124 : w.heap.size ≤ gb203)); replace HB := Z (below_step Z90 hb); clear hb hbox hg) | ((with_reducible refine gate_dst (N := 12) rfl ?_); refine box_event (by rfl) (N := 12) (by rfl) (cs := #[.int .i64 0, .string (⟨#[]⟩ : ByteArray), .int .i32 0, .bool false, .int .u32 0]) (t := 46) Z4 ?_; intro gb211 hg w18 hbox hb; have BK211 := Z (hbox); have GW211 := Z ((Z124 : w.heap.size ≤ gb211)); have GE211 := Z ((Z124 : w.heap.size ≤ gb211)); replace HB := Z (below_step Z90 hb); have NB203_211 := Z ((Z93 : gb203 ≠ gb211)); have NB211_203 := Z ((Z94 : gb211 ≠ gb203)); replace BK203 := Z (Yk BK203 hb); clear hb hbox hg; have hnb19 := NB211_203.out; have hnc19 := NB203_211.out; have hcz20 := Yb5 BK211.out)))
 (try simp only [Act.put, List.setIfInBounds_toArray, List.set_cons_zero, List.set_cons_succ])
 go_cut [] (fun wc => ∃ (kq : Nat) (x212000_15 : Int), Aside0 (impl_readItem.j0 kq (a0.extract 0 1) (a0.extract 1 a0.size) x212000_15 (⟨#[]⟩ : ByteArray) 0 false 0 = some (r1, r2, r3, r4, r5)) ∧ Aside0 (kq ≤ k) ∧ Aside0 (wc.heap[gb203]? = some (.cells #[.int .i64 0, .string (⟨#[]⟩ : ByteArray), .int .i32 0, .bool false, .int .u32 0] 46 (0, 0))) ∧ Aside0 (wc.heap[gb211]? = some (.cells #[.int .i64 x212000_15, .string (⟨#[]⟩ : ByteArray), .int .i32 0, .bool false, .int .u32 0] 46 (0, 0))) ∧ Aside0 (Below w.heap.size w wc))
 case first =>
  have H := HC16.out; clear HC16; replace H := Yi H; rcases H with ⟨c21, H⟩ | ⟨c21, H⟩
  ·obtain ⟨c21b0, c21b1⟩ := Ye c21; clear c21
   (first | rw [c21b0] | (simp only [i64_w, i32_w]; rw [c21b0]) | skip)
   have H' := Aside0.mk H; clear H; have hnb22 := NB211_203.out; have hnc22 := NB203_211.out; have hcz23 := Yb5 BK211.out
   go_wp2
   repeat (go_quiet (fail); try go_wp2)
   go_meet
   case rel => exact ⟨_, (8), H', ⟨Z14⟩, ⟨by (with_reducible repeat (first | refine blk_drewN ?_ _ | refine blk_drew ?_ | refine blk_alloc ?_ _)); refine blk_far ?_ NB203_211.out _; (with_reducible repeat (first | refine blk_drewN ?_ _ | refine blk_drew ?_ | refine blk_alloc ?_ _)); refine blk_far ?_ NB203_211.out _; (with_reducible repeat (first | refine blk_drewN ?_ _ | refine blk_drew ?_ | refine blk_alloc ?_ _)); refine blk_far ?_ NB203_211.out _; (with_reducible repeat (first | refine blk_drewN ?_ _ | refine blk_drew ?_ | refine blk_alloc ?_ _)); refine blk_far ?_ NB203_211.out _; (with_reducible repeat (first | refine blk_drewN ?_ _ | refine blk_drew ?_ | refine blk_alloc ?_ _)); refine blk_far ?_ NB203_211.out _; (with_reducible repeat (first | refine blk_drewN ?_ _ | refine blk_drew ?_ | refine blk_alloc ?_ _)); refine blk_far ?_ NB203_211.out _; (with_reducible repeat (first | refine blk_drewN ?_ _ | refine blk_drew ?_ | refine blk_alloc ?_ _)); exact BK203.out⟩, ⟨by (with_reducible repeat (first | refine blk_drewN ?_ _ | refine blk_drew ?_ | refine blk_alloc ?_ _)); refine blk_put (cs := #[.int .i64 7, .string (⟨#[]⟩ : ByteArray), .int .i32 0, .bool false, .int .u32 0]) ?_ 0 _ rfl; (with_reducible repeat (first | refine blk_drewN ?_ _ | refine blk_drew ?_ | refine blk_alloc ?_ _)); refine blk_put (cs := #[.int .i64 7, .string (⟨#[]⟩ : ByteArray), .int .i32 0, .bool false, .int .u32 0]) ?_ 4 _ rfl; (with_reducible repeat (first | refine blk_drewN ?_ _ | refine blk_drew ?_ | refine blk_alloc ?_ _)); refine blk_put (cs := #[.int .i64 7, .string (⟨#[]⟩ : ByteArray), .int .i32 0, .bool false, .int .u32 0]) ?_ 3 _ rfl; (with_reducible repeat (first | refine blk_drewN ?_ _ | refine blk_drew ?_ | refine blk_alloc ?_ _)); refine blk_put (cs := #[.int .i64 7, .string (⟨#[]⟩ : ByteArray), .int .i32 0, .bool false, .int .u32 0]) ?_ 2 _ rfl; (with_reducible repeat (first | refine blk_drewN ?_ _ | refine blk_drew ?_ | refine blk_alloc ?_ _)); refine blk_put (cs := #[.int .i64 7, .string (⟨#[]⟩ : ByteArray), .int .i32 0, .bool false, .int .u32 0]) ?_ 1 _ rfl; (with_reducible repeat (first | refine blk_drewN ?_ _ | refine blk_drew ?_ | refine blk_alloc ?_ _)); refine blk_put (cs := #[.int .i64 0, .string (⟨#[]⟩ : ByteArray), .int .i32 0, .bool false, .int .u32 0]) ?_ 0 _ rfl; (with_reducible repeat (first | refine blk_drewN ?_ _ | refine blk_drew ?_ | refine blk_alloc ?_ _)); exact BK211.out⟩, ⟨Z90⟩⟩
  obtain ⟨c21b0, c21b1⟩ := Yn c21
  (first | rw [c21b0] | (simp only [i64_w, i32_w]; rw [c21b0]) | skip)
  have H' := Aside0.mk H; clear H
  go_wp2
  repeat (go_quiet (fail); try go_wp2)
  go_meet
  case rel => exact ⟨_, (7), H', ⟨Z14⟩, ⟨by (with_reducible repeat (first | refine blk_drewN ?_ _ | refine blk_drew ?_ | refine blk_alloc ?_ _)); refine blk_far ?_ NB203_211.out _; (with_reducible repeat (first | refine blk_drewN ?_ _ | refine blk_drew ?_ | refine blk_alloc ?_ _)); refine blk_far ?_ NB203_211.out _; (with_reducible repeat (first | refine blk_drewN ?_ _ | refine blk_drew ?_ | refine blk_alloc ?_ _)); refine blk_far ?_ NB203_211.out _; (with_reducible repeat (first | refine blk_drewN ?_ _ | refine blk_drew ?_ | refine blk_alloc ?_ _)); refine blk_far ?_ NB203_211.out _; (with_reducible repeat (first | refine blk_drewN ?_ _ | refine blk_drew ?_ | refine blk_alloc ?_ _)); refine blk_far ?_ NB203_211.out _; (with_reducible repeat (first | refine blk_drewN ?_ _ | refine blk_drew ?_ | refine blk_alloc ?_ _)); exact BK203.out⟩, ⟨by (with_reducible repeat (first | refine blk_drewN ?_ _ | refine blk_drew ?_ | refine blk_alloc ?_ _)); refine blk_put (cs := #[.int .i64 7, .string (⟨#[]⟩ : ByteArray), .int .i32 0, .bool false, .int .u32 0]) ?_ 4 _ rfl; (with_reducible repeat (first | refine blk_drewN ?_ _ | refine blk_drew ?_ | refine blk_alloc ?_ _)); refine blk_put (cs := #[.int .i64 7, .string (⟨#[]⟩ : ByteArray), .int .i32 0, .bool false, .int .u32 0]) ?_ 3 _ rfl; (with_reducible repeat (first | refine blk_drewN ?_ _ | refine blk_drew ?_ | refine blk_alloc ?_ _)); refine blk_put (cs := #[.int .i64 7, .string (⟨#[]⟩ : ByteArray), .int .i32 0, .bool false, .int .u32 0]) ?_ 2 _ rfl; (with_reducible repeat (first | refine blk_drewN ?_ _ | refine blk_drew ?_ | refine blk_alloc ?_ _)); refine blk_put (cs := #[.int .i64 7, .string (⟨#[]⟩ : ByteArray), .int .i32 0, .bool false, .int .u32 0]) ?_ 1 _ rfl; (with_reducible repeat (first | refine blk_drewN ?_ _ | refine blk_drew ?_ | refine blk_alloc ?_ _)); refine blk_put (cs := #[.int .i64 0, .string (⟨#[]⟩ : ByteArray), .int .i32 0, .bool false, .int .u32 0]) ?_ 0 _ rfl; (with_reducible repeat (first | refine blk_drewN ?_ _ | refine blk_drew ?_ | refine blk_alloc ?_ _)); exact BK211.out⟩, ⟨Z90⟩⟩
 case rest =>
  clear HC16; (try clear c1); (try clear c2); (try clear c2b0); (try clear c2b1); (try clear p2); (try clear c3); (try clear c3b0); (try clear c3b1); (try clear c4); (try clear c4b0); (try clear c5); (try clear c5b0); (try clear c5b1); (try clear c10); (try clear c10b0); (try clear c10b1); (try clear c19); (try clear c21); (try clear c21b0); (try clear c21b1); (try clear c22); (try clear hcz15); (try clear hcz20); (try clear hcz23); (try clear hcz9); obtain ⟨kq, x212000_15, HA, HJ15, BK203, BK211, HB⟩ := hcut
  cases kq with
  | zero => exact absurd HA.out (by simp [impl_readItem.j0])
  | succ kj15 =>
   have H := HA.out; clear HA; simp only [impl_readItem.j0] at H; replace H := Yd H; obtain ⟨⟨t212, t213⟩, A24, H⟩ := H; (try dsimp only at H); by_cases c25 : t213 = true
   ·subst c25; replace H := Yt H; replace H := Yd H; obtain ⟨⟨t214, t215⟩, A26, H⟩ := H; (try dsimp only at H); simp only [Option.some.injEq, Prod.mk.injEq] at H; obtain ⟨rfl, rfl, rfl, rfl, rfl⟩ := H
    go_wp2_with (first | (go_at_call 82; (with_reducible refine (strings_CutPrefix.calls (a0.extract 1 a0.size) (⟨#[35]⟩ : ByteArray) t212 true _ A24.out).mono ?_); rintro e w' ⟨rfl, ⟨nd, rfl⟩⟩; (try first | exact ⟨rfl, _, World.drewN_drewN _ _ _⟩ | exact ⟨rfl, _, Eq.trans (World.drewN_drewN _ _ _) (congrArg (World.drewN _) (Nat.add_assoc _ _ _))⟩)) | (go_at_call 81; (with_reducible refine (impl_small.calls t212 t214 t215 _ A26.out ⟨Atoi.tab_at HT0.out Z92⟩).mono ?_); rintro e w27 ⟨rfl, hb⟩; replace BK203 := Z (Yk BK203 hb); replace BK211 := Z (Yk BK211 hb); replace HB := Z (below_step Z90 hb); (try clear hb); (try clear hb2); (try clear hk); (try clear hi); have hnb28 := NB211_203.out; have hnc28 := NB203_211.out; have hcz29 := Yb5 BK211.out; have hcz30 := Yb5 BK203.out))
    repeat (go_quiet (first | (go_at_call 82; (with_reducible refine (strings_CutPrefix.calls (a0.extract 1 a0.size) (⟨#[35]⟩ : ByteArray) t212 true _ A24.out).mono ?_); rintro e w' ⟨rfl, ⟨nd, rfl⟩⟩; (try first | exact ⟨rfl, _, World.drewN_drewN _ _ _⟩ | exact ⟨rfl, _, Eq.trans (World.drewN_drewN _ _ _) (congrArg (World.drewN _) (Nat.add_assoc _ _ _))⟩)) | (go_at_call 81; (with_reducible refine (impl_small.calls t212 t214 t215 _ A26.out ⟨Atoi.tab_at HT0.out Z92⟩).mono ?_); rintro e w27 ⟨rfl, hb⟩; replace BK203 := Z (Yk BK203 hb); replace BK211 := Z (Yk BK211 hb); replace HB := Z (below_step Z90 hb); (try clear hb); (try clear hb2); (try clear hk); (try clear hi); have hnb28 := NB211_203.out; have hnc28 := NB203_211.out; have hcz29 := Yb5 BK211.out; have hcz30 := Yb5 BK203.out)); try go_wp2_with (first | (go_at_call 82; (with_reducible refine (strings_CutPrefix.calls (a0.extract 1 a0.size) (⟨#[35]⟩ : ByteArray) t212 true _ A24.out).mono ?_); rintro e w' ⟨rfl, ⟨nd, rfl⟩⟩; (try first | exact ⟨rfl, _, World.drewN_drewN _ _ _⟩ | exact ⟨rfl, _, Eq.trans (World.drewN_drewN _ _ _) (congrArg (World.drewN _) (Nat.add_assoc _ _ _))⟩)) | (go_at_call 81; (with_reducible refine (impl_small.calls t212 t214 t215 _ A26.out ⟨Atoi.tab_at HT0.out Z92⟩).mono ?_); rintro e w27 ⟨rfl, hb⟩; replace BK203 := Z (Yk BK203 hb); replace BK211 := Z (Yk BK211 hb); replace HB := Z (below_step Z90 hb); (try clear hb); (try clear hb2); (try clear hk); (try clear hi); have hnb28 := NB211_203.out; have hnc28 := NB203_211.out; have hcz29 := Yb5 BK211.out; have hcz30 := Yb5 BK203.out)))
    refine bodyPost_ret (results_cell_row rfl _ _ gb203 46 #[.int .i64 x212000_15, .string (⟨#[]⟩ : ByteArray), .int .i32 t214, .bool false, .int .u32 0] (0, 0) _ rfl (by (with_reducible repeat (first | refine blk_drewN ?_ _ | refine blk_drew ?_ | refine blk_alloc ?_ _)); refine blk_put (cs := #[.int .i64 x212000_15, .string (⟨#[]⟩ : ByteArray), .int .i32 t214, .bool false, .int .u32 0]) ?_ 4 _ rfl; (with_reducible repeat (first | refine blk_drewN ?_ _ | refine blk_drew ?_ | refine blk_alloc ?_ _)); refine blk_put (cs := #[.int .i64 x212000_15, .string (⟨#[]⟩ : ByteArray), .int .i32 t214, .bool false, .int .u32 0]) ?_ 3 _ rfl; (with_reducible repeat (first | refine blk_drewN ?_ _ | refine blk_drew ?_ | refine blk_alloc ?_ _)); refine blk_put (cs := #[.int .i64 x212000_15, .string (⟨#[]⟩ : ByteArray), .int .i32 0, .bool false, .int .u32 0]) ?_ 2 _ rfl; (with_reducible repeat (first | refine blk_drewN ?_ _ | refine blk_drew ?_ | refine blk_alloc ?_ _)); refine blk_put (cs := #[.int .i64 x212000_15, .string (⟨#[]⟩ : ByteArray), .int .i32 0, .bool false, .int .u32 0]) ?_ 1 _ rfl; (with_reducible repeat (first | refine blk_drewN ?_ _ | refine blk_drew ?_ | refine blk_alloc ?_ _)); refine blk_put (cs := #[.int .i64 0, .string (⟨#[]⟩ : ByteArray), .int .i32 0, .bool false, .int .u32 0]) ?_ 0 _ rfl; (with_reducible repeat (first | refine blk_drewN ?_ _ | refine blk_drew ?_ | refine blk_alloc ?_ _)); refine blk_far ?_ NB203_211.out _; (with_reducible repeat (first | refine blk_drewN ?_ _ | refine blk_drew ?_ | refine blk_alloc ?_ _)); exact BK203.out) Tryz.underlying46 rfl Z0) rfl ?_
    exact ⟨Z91, Z90⟩
   replace c25 := Bool.eq_false_iff.mpr c25; subst c25; replace H := Yf H; replace H := Yd H; obtain ⟨⟨t216, t217⟩, A31, H⟩ := H; (try dsimp only at H); by_cases c32 : t217 = true
   ·subst c32; replace H := Yt H; replace H := Yd H; obtain ⟨⟨t218, t219⟩, A33, H⟩ := H; (try dsimp only at H); simp only [Option.some.injEq, Prod.mk.injEq] at H; obtain ⟨rfl, rfl, rfl, rfl, rfl⟩ := H
    go_wp2_with (first | (go_at_call 82; (with_reducible refine (strings_CutPrefix.calls (a0.extract 1 a0.size) (⟨#[35]⟩ : ByteArray) t212 false _ A24.out).mono ?_); rintro e w' ⟨rfl, ⟨nd, rfl⟩⟩; (try first | exact ⟨rfl, _, World.drewN_drewN _ _ _⟩ | exact ⟨rfl, _, Eq.trans (World.drewN_drewN _ _ _) (congrArg (World.drewN _) (Nat.add_assoc _ _ _))⟩)) | (go_at_call 82; (with_reducible refine (strings_CutPrefix.calls (a0.extract 1 a0.size) (⟨#[36]⟩ : ByteArray) t216 true _ A31.out).mono ?_); rintro e w' ⟨rfl, ⟨nd, rfl⟩⟩; (try first | exact ⟨rfl, _, World.drewN_drewN _ _ _⟩ | exact ⟨rfl, _, Eq.trans (World.drewN_drewN _ _ _) (congrArg (World.drewN _) (Nat.add_assoc _ _ _))⟩)) | (go_at_call 79; (with_reducible refine (impl_ReadHex.calls t216 t218 t219 _ A33.out ⟨Atoi.tab_at HT0.out Z92⟩).mono ?_); rintro e w34 ⟨rfl, hb⟩; replace BK203 := Z (Yk BK203 hb); replace BK211 := Z (Yk BK211 hb); replace HB := Z (below_step Z90 hb); (try clear hb); (try clear hb2); (try clear hk); (try clear hi); have hnb35 := NB211_203.out; have hnc35 := NB203_211.out; have hcz36 := Yb5 BK211.out; have hcz37 := Yb5 BK203.out))
    repeat (go_quiet (first | (go_at_call 82; (with_reducible refine (strings_CutPrefix.calls (a0.extract 1 a0.size) (⟨#[35]⟩ : ByteArray) t212 false _ A24.out).mono ?_); rintro e w' ⟨rfl, ⟨nd, rfl⟩⟩; (try first | exact ⟨rfl, _, World.drewN_drewN _ _ _⟩ | exact ⟨rfl, _, Eq.trans (World.drewN_drewN _ _ _) (congrArg (World.drewN _) (Nat.add_assoc _ _ _))⟩)) | (go_at_call 82; (with_reducible refine (strings_CutPrefix.calls (a0.extract 1 a0.size) (⟨#[36]⟩ : ByteArray) t216 true _ A31.out).mono ?_); rintro e w' ⟨rfl, ⟨nd, rfl⟩⟩; (try first | exact ⟨rfl, _, World.drewN_drewN _ _ _⟩ | exact ⟨rfl, _, Eq.trans (World.drewN_drewN _ _ _) (congrArg (World.drewN _) (Nat.add_assoc _ _ _))⟩)) | (go_at_call 79; (with_reducible refine (impl_ReadHex.calls t216 t218 t219 _ A33.out ⟨Atoi.tab_at HT0.out Z92⟩).mono ?_); rintro e w34 ⟨rfl, hb⟩; replace BK203 := Z (Yk BK203 hb); replace BK211 := Z (Yk BK211 hb); replace HB := Z (below_step Z90 hb); (try clear hb); (try clear hb2); (try clear hk); (try clear hi); have hnb35 := NB211_203.out; have hnc35 := NB203_211.out; have hcz36 := Yb5 BK211.out; have hcz37 := Yb5 BK203.out)); try go_wp2_with (first | (go_at_call 82; (with_reducible refine (strings_CutPrefix.calls (a0.extract 1 a0.size) (⟨#[35]⟩ : ByteArray) t212 false _ A24.out).mono ?_); rintro e w' ⟨rfl, ⟨nd, rfl⟩⟩; (try first | exact ⟨rfl, _, World.drewN_drewN _ _ _⟩ | exact ⟨rfl, _, Eq.trans (World.drewN_drewN _ _ _) (congrArg (World.drewN _) (Nat.add_assoc _ _ _))⟩)) | (go_at_call 82; (with_reducible refine (strings_CutPrefix.calls (a0.extract 1 a0.size) (⟨#[36]⟩ : ByteArray) t216 true _ A31.out).mono ?_); rintro e w' ⟨rfl, ⟨nd, rfl⟩⟩; (try first | exact ⟨rfl, _, World.drewN_drewN _ _ _⟩ | exact ⟨rfl, _, Eq.trans (World.drewN_drewN _ _ _) (congrArg (World.drewN _) (Nat.add_assoc _ _ _))⟩)) | (go_at_call 79; (with_reducible refine (impl_ReadHex.calls t216 t218 t219 _ A33.out ⟨Atoi.tab_at HT0.out Z92⟩).mono ?_); rintro e w34 ⟨rfl, hb⟩; replace BK203 := Z (Yk BK203 hb); replace BK211 := Z (Yk BK211 hb); replace HB := Z (below_step Z90 hb); (try clear hb); (try clear hb2); (try clear hk); (try clear hi); have hnb35 := NB211_203.out; have hnc35 := NB203_211.out; have hcz36 := Yb5 BK211.out; have hcz37 := Yb5 BK203.out)))
    refine bodyPost_ret (results_cell_row rfl _ _ gb203 46 #[.int .i64 x212000_15, .string (⟨#[]⟩ : ByteArray), .int .i32 (wrap32 (t218)), .bool true, .int .u32 0] (0, 0) _ rfl (by (with_reducible repeat (first | refine blk_drewN ?_ _ | refine blk_drew ?_ | refine blk_alloc ?_ _)); refine blk_put (cs := #[.int .i64 x212000_15, .string (⟨#[]⟩ : ByteArray), .int .i32 (wrap32 (t218)), .bool true, .int .u32 0]) ?_ 4 _ rfl; (with_reducible repeat (first | refine blk_drewN ?_ _ | refine blk_drew ?_ | refine blk_alloc ?_ _)); refine blk_put (cs := #[.int .i64 x212000_15, .string (⟨#[]⟩ : ByteArray), .int .i32 (wrap32 (t218)), .bool false, .int .u32 0]) ?_ 3 _ rfl; (with_reducible repeat (first | refine blk_drewN ?_ _ | refine blk_drew ?_ | refine blk_alloc ?_ _)); refine blk_put (cs := #[.int .i64 x212000_15, .string (⟨#[]⟩ : ByteArray), .int .i32 0, .bool false, .int .u32 0]) ?_ 2 _ rfl; (with_reducible repeat (first | refine blk_drewN ?_ _ | refine blk_drew ?_ | refine blk_alloc ?_ _)); refine blk_put (cs := #[.int .i64 x212000_15, .string (⟨#[]⟩ : ByteArray), .int .i32 0, .bool false, .int .u32 0]) ?_ 1 _ rfl; (with_reducible repeat (first | refine blk_drewN ?_ _ | refine blk_drew ?_ | refine blk_alloc ?_ _)); refine blk_put (cs := #[.int .i64 0, .string (⟨#[]⟩ : ByteArray), .int .i32 0, .bool false, .int .u32 0]) ?_ 0 _ rfl; (with_reducible repeat (first | refine blk_drewN ?_ _ | refine blk_drew ?_ | refine blk_alloc ?_ _)); refine blk_far ?_ NB203_211.out _; (with_reducible repeat (first | refine blk_drewN ?_ _ | refine blk_drew ?_ | refine blk_alloc ?_ _)); refine blk_far ?_ NB203_211.out _; (with_reducible repeat (first | refine blk_drewN ?_ _ | refine blk_drew ?_ | refine blk_alloc ?_ _)); exact BK203.out) Tryz.underlying46 rfl Z0) rfl ?_
    exact ⟨Z91, Z90⟩
   replace c32 := Bool.eq_false_iff.mpr c32; subst c32; replace H := Yf H; have H' := Aside0.mk H; clear H
   go_wp2_with (first | (go_at_call 82; (with_reducible refine (strings_CutPrefix.calls (a0.extract 1 a0.size) (⟨#[35]⟩ : ByteArray) t212 false _ A24.out).mono ?_); rintro e w' ⟨rfl, ⟨nd, rfl⟩⟩; (try first | exact ⟨rfl, _, World.drewN_drewN _ _ _⟩ | exact ⟨rfl, _, Eq.trans (World.drewN_drewN _ _ _) (congrArg (World.drewN _) (Nat.add_assoc _ _ _))⟩)) | (go_at_call 82; (with_reducible refine (strings_CutPrefix.calls (a0.extract 1 a0.size) (⟨#[36]⟩ : ByteArray) t216 false _ A31.out).mono ?_); rintro e w' ⟨rfl, ⟨nd, rfl⟩⟩; (try first | exact ⟨rfl, _, World.drewN_drewN _ _ _⟩ | exact ⟨rfl, _, Eq.trans (World.drewN_drewN _ _ _) (congrArg (World.drewN _) (Nat.add_assoc _ _ _))⟩)))
   repeat (go_quiet (first | (go_at_call 82; (with_reducible refine (strings_CutPrefix.calls (a0.extract 1 a0.size) (⟨#[35]⟩ : ByteArray) t212 false _ A24.out).mono ?_); rintro e w' ⟨rfl, ⟨nd, rfl⟩⟩; (try first | exact ⟨rfl, _, World.drewN_drewN _ _ _⟩ | exact ⟨rfl, _, Eq.trans (World.drewN_drewN _ _ _) (congrArg (World.drewN _) (Nat.add_assoc _ _ _))⟩)) | (go_at_call 82; (with_reducible refine (strings_CutPrefix.calls (a0.extract 1 a0.size) (⟨#[36]⟩ : ByteArray) t216 false _ A31.out).mono ?_); rintro e w' ⟨rfl, ⟨nd, rfl⟩⟩; (try first | exact ⟨rfl, _, World.drewN_drewN _ _ _⟩ | exact ⟨rfl, _, Eq.trans (World.drewN_drewN _ _ _) (congrArg (World.drewN _) (Nat.add_assoc _ _ _))⟩))); try go_wp2_with (first | (go_at_call 82; (with_reducible refine (strings_CutPrefix.calls (a0.extract 1 a0.size) (⟨#[35]⟩ : ByteArray) t212 false _ A24.out).mono ?_); rintro e w' ⟨rfl, ⟨nd, rfl⟩⟩; (try first | exact ⟨rfl, _, World.drewN_drewN _ _ _⟩ | exact ⟨rfl, _, Eq.trans (World.drewN_drewN _ _ _) (congrArg (World.drewN _) (Nat.add_assoc _ _ _))⟩)) | (go_at_call 82; (with_reducible refine (strings_CutPrefix.calls (a0.extract 1 a0.size) (⟨#[36]⟩ : ByteArray) t216 false _ A31.out).mono ?_); rintro e w' ⟨rfl, ⟨nd, rfl⟩⟩; (try first | exact ⟨rfl, _, World.drewN_drewN _ _ _⟩ | exact ⟨rfl, _, Eq.trans (World.drewN_drewN _ _ _) (congrArg (World.drewN _) (Nat.add_assoc _ _ _))⟩))))
   go_loopg [19] kj15 (fun kq v19 w' => ∃ (x19_2 : Int) (x204000_2 : Int) (x204001_2 : ByteArray) (x204002_2 : Int) (x204003_2 : Bool) (x204004_2 : Int), v19 = .int .i64 x19_2 ∧ Aside0 (impl_readItem.l0 kq (a0.extract 0 1) (a0.extract 1 a0.size) x19_2 = some (r1, r2, r3, r4, r5)) ∧ Aside0 (kq ≤ kj15) ∧ Aside0 (w'.heap[gb203]? = some (.cells #[.int .i64 x204000_2, .string x204001_2, .int .i32 x204002_2, .bool x204003_2, .int .u32 x204004_2] 46 (0, 0))) ∧ Aside0 (w'.heap[gb211]? = some (.cells #[.int .i64 x212000_15, .string (⟨#[]⟩ : ByteArray), .int .i32 0, .bool false, .int .u32 0] 46 (0, 0))) ∧ Aside0 (Below w.heap.size w w'))
   case atStart => exact ⟨(1), (0), ((⟨#[]⟩ : ByteArray)), (0), (false), (0), Z2, H', ⟨Nat.le_refl _⟩, ⟨(Z15 BK203)⟩, ⟨(Z15 BK211)⟩, ⟨Z90⟩⟩
   case round =>
    clear H'; (try clear c1); (try clear c2); (try clear c2b0); (try clear c2b1); (try clear p2); (try clear c3); (try clear c3b0); (try clear c3b1); (try clear p3); (try clear c4); (try clear c4b0); (try clear c5); (try clear c5b0); (try clear c5b1); (try clear c10); (try clear c10b0); (try clear c10b1); (try clear c19); (try clear c21); (try clear c21b0); (try clear c21b1); (try clear c22); (try clear c25); (try clear c28); (try clear c32); (try clear p32); (try clear c35); (try clear hcz15); (try clear hcz20); (try clear hcz23); (try clear hcz29); (try clear hcz30); (try clear hcz36); (try clear hcz37); (try clear hcz9); (try clear p2); obtain ⟨x19_2, x204000_2, x204001_2, x204002_2, x204003_2, x204004_2, rfl, HA, HK2, BK203, BK211, HB⟩ := hrel
    cases gk with
    | zero => exact absurd HA.out (by simp [impl_readItem.l0])
    | succ k2 =>
     have H := HA.out; clear HA; simp only [impl_readItem.l0] at H; replace H := Yi H; rcases H with ⟨c38, H⟩ | ⟨c38, H⟩
     ·have c38b0 := decide_eq_true c38; clear c38; replace H := Yd H; obtain ⟨t220, A39, H⟩ := H; (try dsimp only at H); replace H := Yi H; rcases H with ⟨c40, H⟩ | ⟨c40, H⟩
      ·obtain ⟨c40b0, c40b1⟩ := Ye c40; clear c40; simp only [Option.some.injEq, Prod.mk.injEq] at H; obtain ⟨rfl, rfl, rfl, rfl, rfl⟩ := H
       go_wp2_with (first | (go_at_call 47; (with_reducible refine (impl_mark.calls x19_2 t220 _ A39.out).mono ?_); rintro e w' ⟨rfl, ⟨nd, rfl⟩⟩; (try first | exact ⟨rfl, _, World.drewN_drewN _ _ _⟩ | exact ⟨rfl, _, Eq.trans (World.drewN_drewN _ _ _) (congrArg (World.drewN _) (Nat.add_assoc _ _ _))⟩); have hnb41 := NB203_211.out; have hnc41 := NB211_203.out; have hcz42 := Yb5 BK203.out))
       repeat (go_quiet (first | (go_at_call 47; (with_reducible refine (impl_mark.calls x19_2 t220 _ A39.out).mono ?_); rintro e w' ⟨rfl, ⟨nd, rfl⟩⟩; (try first | exact ⟨rfl, _, World.drewN_drewN _ _ _⟩ | exact ⟨rfl, _, Eq.trans (World.drewN_drewN _ _ _) (congrArg (World.drewN _) (Nat.add_assoc _ _ _))⟩); have hnb41 := NB203_211.out; have hnc41 := NB211_203.out; have hcz42 := Yb5 BK203.out)); try go_wp2_with (first | (go_at_call 47; (with_reducible refine (impl_mark.calls x19_2 t220 _ A39.out).mono ?_); rintro e w' ⟨rfl, ⟨nd, rfl⟩⟩; (try first | exact ⟨rfl, _, World.drewN_drewN _ _ _⟩ | exact ⟨rfl, _, Eq.trans (World.drewN_drewN _ _ _) (congrArg (World.drewN _) (Nat.add_assoc _ _ _))⟩); have hnb41 := NB203_211.out; have hnc41 := NB211_203.out; have hcz42 := Yb5 BK203.out)))
       refine bodyPost_ret (results_cell_row rfl _ _ gb203 46 #[.int .i64 x19_2, .string (a0.extract 1 a0.size), .int .i32 0, .bool false, .int .u32 0] (0, 0) _ rfl (by (with_reducible repeat (first | refine blk_drewN ?_ _ | refine blk_drew ?_ | refine blk_alloc ?_ _)); refine blk_put (cs := #[.int .i64 x19_2, .string (a0.extract 1 a0.size), .int .i32 0, .bool false, .int .u32 x204004_2]) ?_ 4 _ rfl; (with_reducible repeat (first | refine blk_drewN ?_ _ | refine blk_drew ?_ | refine blk_alloc ?_ _)); refine blk_put (cs := #[.int .i64 x19_2, .string (a0.extract 1 a0.size), .int .i32 0, .bool x204003_2, .int .u32 x204004_2]) ?_ 3 _ rfl; (with_reducible repeat (first | refine blk_drewN ?_ _ | refine blk_drew ?_ | refine blk_alloc ?_ _)); refine blk_put (cs := #[.int .i64 x19_2, .string (a0.extract 1 a0.size), .int .i32 x204002_2, .bool x204003_2, .int .u32 x204004_2]) ?_ 2 _ rfl; (with_reducible repeat (first | refine blk_drewN ?_ _ | refine blk_drew ?_ | refine blk_alloc ?_ _)); refine blk_put (cs := #[.int .i64 x19_2, .string x204001_2, .int .i32 x204002_2, .bool x204003_2, .int .u32 x204004_2]) ?_ 1 _ rfl; (with_reducible repeat (first | refine blk_drewN ?_ _ | refine blk_drew ?_ | refine blk_alloc ?_ _)); refine blk_put (cs := #[.int .i64 x204000_2, .string x204001_2, .int .i32 x204002_2, .bool x204003_2, .int .u32 x204004_2]) ?_ 0 _ rfl; (with_reducible repeat (first | refine blk_drewN ?_ _ | refine blk_drew ?_ | refine blk_alloc ?_ _)); exact BK203.out) Tryz.underlying46 rfl Z0) rfl ?_
       exact ⟨Z91, Z90⟩
      obtain ⟨c40b0, c40b1⟩ := Yn c40; have H' := Aside0.mk H; clear H
      go_wp2_with (first | (go_at_call 47; (with_reducible refine (impl_mark.calls x19_2 t220 _ A39.out).mono ?_); rintro e w' ⟨rfl, ⟨nd, rfl⟩⟩; (try first | exact ⟨rfl, _, World.drewN_drewN _ _ _⟩ | exact ⟨rfl, _, Eq.trans (World.drewN_drewN _ _ _) (congrArg (World.drewN _) (Nat.add_assoc _ _ _))⟩)))
      repeat (go_quiet (first | (go_at_call 47; (with_reducible refine (impl_mark.calls x19_2 t220 _ A39.out).mono ?_); rintro e w' ⟨rfl, ⟨nd, rfl⟩⟩; (try first | exact ⟨rfl, _, World.drewN_drewN _ _ _⟩ | exact ⟨rfl, _, Eq.trans (World.drewN_drewN _ _ _) (congrArg (World.drewN _) (Nat.add_assoc _ _ _))⟩))); try go_wp2_with (first | (go_at_call 47; (with_reducible refine (impl_mark.calls x19_2 t220 _ A39.out).mono ?_); rintro e w' ⟨rfl, ⟨nd, rfl⟩⟩; (try first | exact ⟨rfl, _, World.drewN_drewN _ _ _⟩ | exact ⟨rfl, _, Eq.trans (World.drewN_drewN _ _ _) (congrArg (World.drewN _) (Nat.add_assoc _ _ _))⟩))))
      go_roundg k2
      case measure => have := HJ15.out; have := HK2.out; omega
      case rel => exact ⟨(wrap64 (x19_2 + 1)), (x204000_2), (x204001_2), (x204002_2), (x204003_2), (x204004_2), Z2, H', ⟨by have := HJ15.out; have := HK2.out; omega⟩, ⟨(Z15 BK203)⟩, ⟨(Z15 BK211)⟩, ⟨Z90⟩⟩
     have c38b0 := decide_eq_false c38; clear c38; simp only [Option.some.injEq, Prod.mk.injEq] at H; obtain ⟨rfl, rfl, rfl, rfl, rfl⟩ := H; have hnb43 := NB203_211.out; have hnc43 := NB211_203.out; have hcz44 := Yb5 BK203.out
     go_wp2
     repeat (go_quiet (fail); try go_wp2)
     refine bodyPost_ret (results_cell_row rfl _ _ gb203 46 #[.int .i64 0, .string (⟨#[]⟩ : ByteArray), .int .i32 0, .bool false, .int .u32 0] (0, 0) _ rfl (by (with_reducible repeat (first | refine blk_drewN ?_ _ | refine blk_drew ?_ | refine blk_alloc ?_ _)); refine blk_put (cs := #[.int .i64 0, .string (⟨#[]⟩ : ByteArray), .int .i32 0, .bool false, .int .u32 x204004_2]) ?_ 4 _ rfl; (with_reducible repeat (first | refine blk_drewN ?_ _ | refine blk_drew ?_ | refine blk_alloc ?_ _)); refine blk_put (cs := #[.int .i64 0, .string (⟨#[]⟩ : ByteArray), .int .i32 0, .bool x204003_2, .int .u32 x204004_2]) ?_ 3 _ rfl; (with_reducible repeat (first | refine blk_drewN ?_ _ | refine blk_drew ?_ | refine blk_alloc ?_ _)); refine blk_put (cs := #[.int .i64 0, .string (⟨#[]⟩ : ByteArray), .int .i32 x204002_2, .bool x204003_2, .int .u32 x204004_2]) ?_ 2 _ rfl; (with_reducible repeat (first | refine blk_drewN ?_ _ | refine blk_drew ?_ | refine blk_alloc ?_ _)); refine blk_put (cs := #[.int .i64 0, .string x204001_2, .int .i32 x204002_2, .bool x204003_2, .int .u32 x204004_2]) ?_ 1 _ rfl; (with_reducible repeat (first | refine blk_drewN ?_ _ | refine blk_drew ?_ | refine blk_alloc ?_ _)); refine blk_put (cs := #[.int .i64 x204000_2, .string x204001_2, .int .i32 x204002_2, .bool x204003_2, .int .u32 x204004_2]) ?_ 0 _ rfl; (with_reducible repeat (first | refine blk_drewN ?_ _ | refine blk_drew ?_ | refine blk_alloc ?_ _)); exact BK203.out) Tryz.underlying46 rfl Z0) rfl ?_
     exact ⟨Z91, Z90⟩

def impl_ReadItem.f (k : Nat) (a0 : ByteArray) : Option (Int × ByteArray × Int × Bool × Int × Bool) := if a0.toList = ([] : List UInt8) then (some (0, (⟨#[]⟩ : ByteArray), 0, false, 0, false)) else ((impl_readItem.f k a0).bind fun bt222 => ((impl_ItemText.f k bt222.1 bt222.2.1 bt222.2.2.1 bt222.2.2.2.1 bt222.2.2.2.2).bind fun t228 => (if t228.toList = a0.toList then (some (bt222.1, bt222.2.1, bt222.2.2.1, bt222.2.2.2.1, bt222.2.2.2.2, true)) else (some (0, (⟨#[]⟩ : ByteArray), 0, false, 0, false)))))
theorem impl_ReadItem.calls (k : Nat) (a0 : ByteArray) (r1 : Int) (r2 : ByteArray) (r3 : Int) (r4 : Bool) (r5 : Int) (r6 : Bool) (w : World) (h : impl_ReadItem.f k a0 = some (r1, r2, r3, r4, r5, r6)) (HT0 : Aside0 (Atoi.Tab w)) :
  Calls Tryz.prog 25 #[.string a0] w fun e w' => e = .returned (.tuple #[.agg #[.int .i64 r1, .string r2, .int .i32 r3, .bool r4, .int .u32 r5], .bool r6]) ∧ Below w.heap.size w w' := by
 have HT1 : Aside0 (Itoa.Tab w) := ⟨HT0.out.1⟩; have hu46 := Tryz.underlying46; have HB := Z (Below.refl w.heap.size w); unfold impl_ReadItem.f at h; have H := h; clear h; replace H := Yi H; rcases H with ⟨c2, H⟩ | ⟨c2, H⟩
 ·obtain ⟨c2b0, c2b1⟩ := Ye c2; clear c2; simp only [Option.some.injEq, Prod.mk.injEq] at H; obtain ⟨rfl, rfl, rfl, rfl, rfl, rfl⟩ := H; go_enter Tryz.func25, Tryz.ntmps25
  go_wp2_with (first | ((with_reducible refine gate_dst (N := 2) rfl ?_); refine box_event (by rfl) (N := 2) (by rfl) (cs := #[.int .i64 0, .string (⟨#[]⟩ : ByteArray), .int .i32 0, .bool false, .int .u32 0]) (t := 46) Z4 ?_; intro gb221 hg w3 hbox hb; have BK221 := Z (hbox); have GW221 := Z ((Z124 : w.heap.size ≤ gb221)); have GE221 := Z ((Z124 : w.heap.size ≤ gb221)); replace HB := Z (below_step Z90 hb); clear hb hbox hg; have hcz4 := Yb5 BK221.out))
  refine bodyPost_ret (results_ct rfl _ _ gb221 46 #[.int .i64 0, .string (⟨#[]⟩ : ByteArray), .int .i32 0, .bool false, .int .u32 0] (0, 0) _ rfl (Z24 BK221) Tryz.underlying46 rfl Z0) rfl ?_
  exact ⟨Z91, Z90⟩
 obtain ⟨c2b0, c2b1⟩ := Yn c2; replace H := Yd H; obtain ⟨⟨t222, t223, t224, t225, t226⟩, A5, H⟩ := H; (try dsimp only at H); replace H := Yd H; obtain ⟨t228, A6, H⟩ := H; (try dsimp only at H); replace H := Yi H; rcases H with ⟨c7, H⟩ | ⟨c7, H⟩
 ·obtain ⟨c7b0, c7b1⟩ := Ye c7; clear c7; simp only [Option.some.injEq, Prod.mk.injEq] at H; obtain ⟨rfl, rfl, rfl, rfl, rfl, rfl⟩ := H; go_enter Tryz.func25, Tryz.ntmps25
  go_wp2_with (first | ((with_reducible refine gate_dst (N := 2) rfl ?_); refine box_event (by rfl) (N := 2) (by rfl) (cs := #[.int .i64 0, .string (⟨#[]⟩ : ByteArray), .int .i32 0, .bool false, .int .u32 0]) (t := 46) Z4 ?_; intro gb221 hg w8 hbox hb; have BK221 := Z (hbox); have GW221 := Z ((Z124 : w.heap.size ≤ gb221)); have GE221 := Z ((Z124 : w.heap.size ≤ gb221)); replace HB := Z (below_step Z90 hb); clear hb hbox hg) | ((with_reducible refine gate_callee (f := 49) rfl ?_); refine goesL_ (some 9) rfl rfl Tryz.func49 Z0 rfl #[.string a0] rfl Z8 ?_; (with_reducible refine (impl_readItem.calls k a0 t222 t223 t224 t225 t226 _ A5.out ⟨Atoi.tab_at HT0.out Z92⟩).mono ?_); rintro e w9 ⟨rfl, hb⟩; refine ⟨_, rfl, ?_⟩; replace BK221 := Z (Yk BK221 hb); replace HB := Z (below_step Z90 hb); (try clear hb); (try clear hb2); (try clear hk); (try clear hi)) | ((with_reducible refine gate_dst (N := 4) rfl ?_); refine box_event (by rfl) (N := 4) (by rfl) (cs := #[.int .i64 0, .string (⟨#[]⟩ : ByteArray), .int .i32 0, .bool false, .int .u32 0]) (t := 46) Z4 ?_; intro gb227 hg w10 hbox hb; have BK227 := Z (hbox); have GW227 := Z ((Z124 : w.heap.size ≤ gb227)); have GE227 := Z ((Z124 : w.heap.size ≤ gb227)); replace HB := Z (below_step Z90 hb); have NB221_227 := Z ((Z95 : gb221 ≠ gb227)); have NB227_221 := Z ((Z96 : gb227 ≠ gb221)); replace BK221 := Z (Yk BK221 hb); clear hb hbox hg; have hnb11 := NB227_221.out; have hnc11 := NB221_227.out; have hcz12 := Yb5 BK227.out) | ((with_reducible refine gate_callee (f := 21) rfl ?_); refine goesL_ (some 11) rfl rfl Tryz.func21 Z0 rfl #[.agg #[.int .i64 t222, .string t223, .int .i32 t224, .bool t225, .int .u32 t226]] rfl Z8 ?_; (with_reducible refine (impl_ItemText.calls k t222 t223 t224 t225 t226 t228 _ A6.out ⟨Itoa.tab_at HT1.out Z92⟩).mono ?_); rintro e w13 ⟨rfl, hb⟩; refine ⟨_, rfl, ?_⟩; replace BK221 := Z (Yk BK221 hb); replace BK227 := Z (blk_below (g := gb227) (o := .cells #[.int .i64 t222, .string t223, .int .i32 t224, .bool t225, .int .u32 t226] 46 (0, 0)) (Z25 BK227) hb); replace HB := Z (below_step Z90 hb); (try clear hb); (try clear hb2); (try clear hk); (try clear hi); have hcz14 := Yb5 BK227.out; have hcz15 := Yb5 BK221.out))
  refine bodyPost_ret (results_ct rfl _ _ gb221 46 #[.int .i64 t222, .string t223, .int .i32 t224, .bool t225, .int .u32 t226] (0, 0) _ rfl (Z25 BK221) Tryz.underlying46 rfl Z0) rfl ?_
  exact ⟨Z91, Z90⟩
 obtain ⟨c7b0, c7b1⟩ := Yn c7; simp only [Option.some.injEq, Prod.mk.injEq] at H; obtain ⟨rfl, rfl, rfl, rfl, rfl, rfl⟩ := H; go_enter Tryz.func25, Tryz.ntmps25
 go_wp2_with (first | ((with_reducible refine gate_dst (N := 2) rfl ?_); refine box_event (by rfl) (N := 2) (by rfl) (cs := #[.int .i64 0, .string (⟨#[]⟩ : ByteArray), .int .i32 0, .bool false, .int .u32 0]) (t := 46) Z4 ?_; intro gb221 hg w16 hbox hb; have BK221 := Z (hbox); have GW221 := Z ((Z124 : w.heap.size ≤ gb221)); have GE221 := Z ((Z124 : w.heap.size ≤ gb221)); replace HB := Z (below_step Z90 hb); clear hb hbox hg) | ((with_reducible refine gate_callee (f := 49) rfl ?_); refine goesL_ (some 9) rfl rfl Tryz.func49 Z0 rfl #[.string a0] rfl Z8 ?_; (with_reducible refine (impl_readItem.calls k a0 t222 t223 t224 t225 t226 _ A5.out ⟨Atoi.tab_at HT0.out Z92⟩).mono ?_); rintro e w17 ⟨rfl, hb⟩; refine ⟨_, rfl, ?_⟩; replace BK221 := Z (Yk BK221 hb); replace HB := Z (below_step Z90 hb); (try clear hb); (try clear hb2); (try clear hk); (try clear hi)) | ((with_reducible refine gate_dst (N := 4) rfl ?_); refine box_event (by rfl) (N := 4) (by rfl) (cs := #[.int .i64 0, .string (⟨#[]⟩ : ByteArray), .int .i32 0, .bool false, .int .u32 0]) (t := 46) Z4 ?_; intro gb227 hg w18 hbox hb; have BK227 := Z (hbox); have GW227 := Z ((Z124 : w.heap.size ≤ gb227)); have GE227 := Z ((Z124 : w.heap.size ≤ gb227)); replace HB := Z (below_step Z90 hb); have NB221_227 := Z ((Z95 : gb221 ≠ gb227)); have NB227_221 := Z ((Z96 : gb227 ≠ gb221)); replace BK221 := Z (Yk BK221 hb); clear hb hbox hg; have hnb19 := NB227_221.out; have hnc19 := NB221_227.out; have hcz20 := Yb5 BK227.out) | ((with_reducible refine gate_callee (f := 21) rfl ?_); refine goesL_ (some 11) rfl rfl Tryz.func21 Z0 rfl #[.agg #[.int .i64 t222, .string t223, .int .i32 t224, .bool t225, .int .u32 t226]] rfl Z8 ?_; (with_reducible refine (impl_ItemText.calls k t222 t223 t224 t225 t226 t228 _ A6.out ⟨Itoa.tab_at HT1.out Z92⟩).mono ?_); rintro e w21 ⟨rfl, hb⟩; refine ⟨_, rfl, ?_⟩; replace BK221 := Z (Yk BK221 hb); replace BK227 := Z (blk_below (g := gb227) (o := .cells #[.int .i64 t222, .string t223, .int .i32 t224, .bool t225, .int .u32 t226] 46 (0, 0)) (Z25 BK227) hb); replace HB := Z (below_step Z90 hb); (try clear hb); (try clear hb2); (try clear hk); (try clear hi); have hcz22 := Yb5 BK221.out))
 refine bodyPost_ret (results_ct rfl _ _ gb221 46 #[.int .i64 0, .string (⟨#[]⟩ : ByteArray), .int .i32 0, .bool false, .int .u32 0] (0, 0) _ rfl (Z24 BK221) Tryz.underlying46 rfl Z0) rfl ?_
 exact ⟨Z91, Z90⟩

def strings_Count.f (a0 : ByteArray) (a1 : ByteArray) : Option (Int) := match a1.data.toList with
 | [c] => some (Lib.countByte a0.data.toList c)
 | _ => none
set_option maxHeartbeats 1000000 in
set_option maxRecDepth 100000 in
theorem strings_Count.calls (a0 : ByteArray) (a1 : ByteArray) (r : Int) (w : World) (h : strings_Count.f a0 a1 = some r) :
  Calls Tryz.prog 50 #[.string a0, .string a1] w fun e w' => e = .returned (.int .i64 r) ∧ Drawn0 w w' := by
 obtain ⟨c, rfl⟩ : ∃ c, a1 = ⟨#[c]⟩ := by
  unfold strings_Count.f at h
  split at h
  ·rename_i c hc
   exact ⟨c, ByteArray.ext (Array.toList_inj.1 hc)⟩
  ·cases h
 obtain rfl : (Lib.countByte a0.data.toList c : Int) = r := Option.some.inj h; clear h; go_enter Tryz.func50, Tryz.ntmps50
 go_wp2
 rw [run_callFunc_extern Tryz.func84 Z0 Z0 Z0 (e := Extern.BytealgCount.count) Z0, Lib.run_countString]; simp only [Result.andThen]; rw [Oper.upon_value]
 go_wp2
 go_ret
 exact ⟨rfl, Drawn0.refl _⟩

def bytealg_LastIndexByteString.l0 : Nat → ByteArray → Int → Int → Option (Int)
 | 0, _, _, _ => none
 | k + 1, x0, x1, x5 => if x5 ≥ 0 then (if 0 ≤ x5 then (if x5 < (x0.size : Int) then (if (bt x0 x5) = x1 then (some x5) else (bytealg_LastIndexByteString.l0 k x0 x1 (wrap64 (x5 - 1)))) else (none)) else (none)) else (some (-1))
def bytealg_LastIndexByteString.f (k : Nat) (a0 : ByteArray) (a1 : Int) : Option (Int) := bytealg_LastIndexByteString.l0 k a0 a1 (wrap64 ((a0.size : Int) - 1))
theorem bytealg_LastIndexByteString.calls (k : Nat) (a0 : ByteArray) (a1 : Int) (r : Int) (w : World) (h : bytealg_LastIndexByteString.f k a0 a1 = some r) :
  Calls Tryz.prog 86 #[.string a0, .int .u8 a1] w fun e w' => e = .returned (.int .i64 r) ∧ Drawn0 w w' := by
 unfold bytealg_LastIndexByteString.f at h; have H := h; clear h; have H' := Aside0.mk H; clear H; go_enter Tryz.func86, Tryz.ntmps86
 go_wp2
 go_loopg [5] k (fun kq v5 w' => ∃ (x5_1 : Int), v5 = .int .i64 x5_1 ∧ Aside0 (bytealg_LastIndexByteString.l0 kq a0 a1 x5_1 = some r) ∧ Aside0 (kq ≤ k) ∧ Drawn0 w w')
 case atStart => exact ⟨(wrap64 ((a0.size : Int) - 1)), Z2, H', ⟨Nat.le_refl _⟩, Z3⟩
 case round =>
  clear H'; (try clear p2); obtain ⟨x5_1, rfl, HA, HK1, ⟨m1, rfl⟩⟩ := hrel
  cases gk with
  | zero => exact absurd HA.out (by simp [bytealg_LastIndexByteString.l0])
  | succ k1 =>
   have H := HA.out; clear HA; simp only [bytealg_LastIndexByteString.l0] at H; replace H := Yi H; rcases H with ⟨c3, H⟩ | ⟨c3, H⟩
   ·have c3b0 : decide (0 ≤ x5_1) = true := decide_eq_true c3; clear c3; replace H := Yg H; obtain ⟨c4, H⟩ := H; have c4b0 := decide_eq_true c4; clear c4; replace H := Yg H; obtain ⟨c5, H⟩ := H; have c5b0 := decide_eq_true c5; clear c5; replace H := Yi H; rcases H with ⟨c7, H⟩ | ⟨c7, H⟩
    ·obtain ⟨c7b0, c7b1⟩ := Ye c7; clear c7; obtain rfl := Option.some.inj H; have p6 : 0 ≤ (x5_1 : Int) := of_decide_eq_true Z7; have q6 : x5_1 < (a0.size : Int) := of_decide_eq_true Z7; have hx6 := bt_at a0 x5_1; replace p6 := eq_true p6; replace q6 := eq_true q6
     go_wp2
     go_ret
     exact ⟨Z2, Z3⟩
    obtain ⟨c7b0, c7b1⟩ := Yn c7; have H' := Aside0.mk H; clear H; have p6 : 0 ≤ (x5_1 : Int) := of_decide_eq_true Z7; have q6 : x5_1 < (a0.size : Int) := of_decide_eq_true Z7; have hx6 := bt_at a0 x5_1; replace p6 := eq_true p6; replace q6 := eq_true q6
    go_wp2
    go_roundg k1
    case measure => have := HK1.out; omega
    case rel => exact ⟨(wrap64 (x5_1 - 1)), Z2, H', ⟨Z9⟩, Z3⟩
   have c3b0 : decide (0 ≤ x5_1) = false := decide_eq_false c3; clear c3; obtain rfl := Option.some.inj H
   go_wp2
   go_ret
   exact ⟨Z2, Z3⟩

def strings_LastIndex.f (k : Nat) (a0 : ByteArray) (a1 : ByteArray) : Option (Int) := match a1.data.toList with
 | [c] => bytealg_LastIndexByteString.f k a0 c.toNat
 | _ => none
set_option maxHeartbeats 1000000 in
set_option maxRecDepth 100000 in
theorem strings_LastIndex.calls (k : Nat) (a0 : ByteArray) (a1 : ByteArray) (r : Int) (w : World) (h : strings_LastIndex.f k a0 a1 = some r) :
  Calls Tryz.prog 51 #[.string a0, .string a1] w fun e w' => e = .returned (.int .i64 r) ∧ Drawn0 w w' := by
 obtain ⟨c, rfl⟩ : ∃ c, a1 = ⟨#[c]⟩ := by
  unfold strings_LastIndex.f at h
  split at h
  ·rename_i c hc
   exact ⟨c, ByteArray.ext (Array.toList_inj.1 hc)⟩
  ·cases h
 have h' : bytealg_LastIndexByteString.f k a0 c.toNat = some r := h; clear h; have HH := Aside0.mk h'; clear h'; go_enter Tryz.func51, Tryz.ntmps51
 go_wp2_with (go_at_call 86; refine (bytealg_LastIndexByteString.calls k a0 c.toNat r _ HH.out).mono ?_; rintro e w' ⟨rfl, ⟨nd, rfl⟩⟩)
 go_ret
 exact ⟨rfl, Z3⟩

def impl_spotAt.f (k : Nat) (a0 : ByteArray) (a1 : Int) (a2 : Int) : Option (Int × Int × Int) := if 0 ≤ a1 then (if a1 ≤ (a0.size : Int) then ((strings_Count.f (a0.extract 0 (a1 : Int).toNat) (⟨#[10]⟩ : ByteArray)).bind fun t230 => ((strings_LastIndex.f k (a0.extract 0 (a1 : Int).toNat) (⟨#[10]⟩ : ByteArray)).bind fun t231 => (some (a2, wrap64 (t230 + 1), wrap64 (a1 - t231))))) else (none)) else (none)
theorem impl_spotAt.calls (k : Nat) (a0 : ByteArray) (a1 : Int) (a2 : Int) (r1 : Int) (r2 : Int) (r3 : Int) (w : World) (h : impl_spotAt.f k a0 a1 a2 = some (r1, r2, r3)) :
  Calls Tryz.prog 26 #[.string a0, .int .i64 a1, .int .i64 a2] w fun e w' => e = .returned (.agg #[.int .i64 r1, .int .i64 r2, .int .i64 r3]) ∧ Below w.heap.size w w' := by
 have hu28 := Tryz.underlying28; have HB := Z (Below.refl w.heap.size w); unfold impl_spotAt.f at h; have H := h; clear h; replace H := Yg H; obtain ⟨c4, H⟩ := H; have c4b0 := eq_true c4; have c4b1 := decide_eq_true c4; clear c4; replace H := Yg H; obtain ⟨c5, H⟩ := H; have c5b0 := eq_true c5; have c5b1 := decide_eq_true c5; clear c5; replace H := Yd H; obtain ⟨t230, A6, H⟩ := H; (try dsimp only at H); have c7b0 := eq_true (of_decide_eq_true Z7 : 0 ≤ a1); have c8b0 := eq_true (of_decide_eq_true Z7 : a1 ≤ (a0.size : Int)); replace H := Yd H; obtain ⟨t231, A9, H⟩ := H; (try dsimp only at H); simp only [Option.some.injEq, Prod.mk.injEq] at H; obtain ⟨rfl, rfl, rfl⟩ := H; go_enter Tryz.func26, Tryz.ntmps26
 go_wp2_with (first | ((with_reducible refine gate_dst (N := 6) rfl ?_); refine box_event (by rfl) (N := 6) (by rfl) (cs := #[.int .i64 0, .int .i64 0, .int .i64 0]) (t := 28) Z4 ?_; intro gb229 hg w10 hbox hb; have BK229 := Z (hbox); have GW229 := Z ((Z124 : w.heap.size ≤ gb229)); have GE229 := Z ((Z124 : w.heap.size ≤ gb229)); replace HB := Z (below_step Z90 hb); clear hb hbox hg) | ((with_reducible refine gate_callee (f := 50) rfl ?_); refine goesL_ (some 11) rfl rfl Tryz.func50 Z0 rfl #[.string (a0.extract 0 (a1 : Int).toNat), .string (⟨#[10]⟩ : ByteArray)] rfl Z8 ?_; (with_reducible refine (strings_Count.calls (a0.extract 0 (a1 : Int).toNat) (⟨#[10]⟩ : ByteArray) t230 _ A6.out).mono ?_); rintro e w' ⟨rfl, ⟨nd, rfl⟩⟩; refine ⟨_, rfl, ?_⟩; (try (rw [drewN_self w10]; generalize hq_ : World.drewN w10 _ = w10; have n0_ : Aside0 (w10.heap[gb229]? = some (.cells #[.int .i64 0, .int .i64 0, .int .i64 0] 28 (0, 0))) := ⟨by rw [← hq_]; exact (Z15 BK229)⟩; have n1_ : Aside0 (Below w.heap.size w w10) := ⟨Z125⟩; clear BK229 HB hq_; have BK229 := n0_; have HB := n1_; clear n0_ n1_))) | ((with_reducible refine gate_callee (f := 51) rfl ?_); refine goesL_ (some 19) rfl rfl Tryz.func51 Z0 rfl #[.string (a0.extract 0 (a1 : Int).toNat), .string (⟨#[10]⟩ : ByteArray)] rfl Z8 ?_; (with_reducible refine (strings_LastIndex.calls k (a0.extract 0 (a1 : Int).toNat) (⟨#[10]⟩ : ByteArray) t231 _ A9.out).mono ?_); rintro e w' ⟨rfl, ⟨nd, rfl⟩⟩; refine ⟨_, rfl, ?_⟩; (try (rw [drewN_self w10]; generalize hq_ : World.drewN w10 _ = w10; have n0_ : Aside0 (w10.heap[gb229]? = some (.cells #[.int .i64 0, .int .i64 0, .int .i64 0] 28 (0, 0))) := ⟨by rw [← hq_]; exact (Z15 BK229)⟩; have n1_ : Aside0 (Below w.heap.size w w10) := ⟨Z125⟩; clear BK229 HB hq_; have BK229 := n0_; have HB := n1_; clear n0_ n1_)); have hcz11 := Yb3 BK229.out))
 refine bodyPost_ret (results_cell_row rfl _ _ gb229 28 #[.int .i64 a2, .int .i64 (wrap64 (t230 + 1)), .int .i64 (wrap64 (a1 - t231))] (0, 0) _ rfl (by (with_reducible repeat (first | refine blk_drewN ?_ _ | refine blk_drew ?_ | refine blk_alloc ?_ _)); refine blk_put (cs := #[.int .i64 a2, .int .i64 (wrap64 (t230 + 1)), .int .i64 0]) ?_ 2 _ rfl; (with_reducible repeat (first | refine blk_drewN ?_ _ | refine blk_drew ?_ | refine blk_alloc ?_ _)); refine blk_put (cs := #[.int .i64 a2, .int .i64 0, .int .i64 0]) ?_ 1 _ rfl; (with_reducible repeat (first | refine blk_drewN ?_ _ | refine blk_drew ?_ | refine blk_alloc ?_ _)); refine blk_put (cs := #[.int .i64 0, .int .i64 0, .int .i64 0]) ?_ 0 _ rfl; (with_reducible repeat (first | refine blk_drewN ?_ _ | refine blk_drew ?_ | refine blk_alloc ?_ _)); exact BK229.out) Tryz.underlying28 rfl Z0) rfl ?_
 exact ⟨Z91, Z90⟩

end Go.Proofs.YtfjmpdcflnaogaaGreatDoor.QFnExactImport
