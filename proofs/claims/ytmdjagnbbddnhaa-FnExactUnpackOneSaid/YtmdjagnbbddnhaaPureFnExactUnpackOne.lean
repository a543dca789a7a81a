/-
The law FnExactUnpackOne holds of the printed plain functions, for all arguments that the printed bounds allow.
-/
import Derived.Test.YtmdjagnbbddnhaaQFnExactUnpackOnex1
import Derived.Test.YtmdjagnbbddnhaaQFnExactUnpackOnex2
import Derived.Test.YtmdjagnbbddnhaaTools
import Derived.Test.YtmdjagnbbddnhaaLetters
import Derived.Test.YtmdjagnbbddnhaaHeads
import Derived.Test.YtmdjagnbbddnhaaSpots
import Derived.Test.YtmdjagnbbddnhaaNames
namespace Go.Proofs.Ytmdjagnbbddnhaa.Pure
open Go.RowKit Go.Proofs.Ytmdjagnbbddnhaa.QFnExactUnpackOne Go.Proofs.YtmdjagnbbddnhaaW.PrintWords Go.Proofs.YtmdjagnbbddnhaaW.PrintLast Go.Proofs.YtmdjagnbbddnhaaW.PrintMore Go.Proofs.Ytmdjagnbbddnhaa.Tools Go.Proofs.Ytmdjagnbbddnhaa.Plain
set_option linter.unusedVariables false

/-! ### spec_l01In -/
theorem spec_l01In_eq (a b c : Int) : spec_l01In.f a b c = some (decide (b ≤ a ∧ a ≤ c)) := by
  unfold spec_l01In.f
  by_cases h : b ≤ a
  · rw [if_pos h]; simp [h]
  · rw [if_neg h]; simp [h]

/-! ### spec_WidthOf -/
theorem spec_WidthOf_eq (k : Int) : spec_WidthOf.f k = some (widthOf k) := by
  unfold spec_WidthOf.f widthOf
  simp only [spec_l01In_eq, Option.bind_some, decide_eq_true_eq]
  by_cases h1 : 0 ≤ k ∧ k ≤ 7
  · rw [if_pos h1, if_pos h1]
  rw [if_neg h1, if_neg h1]
  by_cases h2 : 8 ≤ k ∧ k ≤ 15
  · rw [if_pos h2, if_pos h2]
  rw [if_neg h2, if_neg h2]
  by_cases h3 : 16 ≤ k ∧ k ≤ 47
  · rw [if_pos h3, if_pos h3]
  rw [if_neg h3, if_neg h3]

/-! ### spec_BitsOf -/
theorem spec_BitsOf_eq (k : Int) : spec_BitsOf.f k = some (bitsOf k) := by
  unfold spec_BitsOf.f
  simp only [spec_WidthOf_eq, Option.bind_some]
  rcases width_cases k with ⟨e1, e2, h⟩ | ⟨e1, e2, h⟩ | ⟨e1, e2, h⟩ | ⟨e1, e2, h⟩ <;> rw [e1, e2] <;> simp
  · omega
  · rw [w64 (by omega) (by omega)]; omega
  · rw [w64 (by omega) (by omega)]; omega

/-! ### spec_Decode -/
theorem spec_Decode_l0 (x n : Int) (hx : 0 ≤ x ∧ x ≤ 4294967295) (hn : 1 ≤ n ∧ n ≤ 32) (d : Nat) (hd : d ≤ 48) : Ev (fun k => spec_Decode.l0 k x n (48 - (d : Int))) (decFrom x n d) := by
  induction d with
  | zero =>
    refine Ev.step (fun k => by rw [spec_Decode.l0]) ?_
    refine ev_neg (by omega) (ev_ret ?_)
    rfl
  | succ d ih =>
    refine Ev.step (fun k => by rw [spec_Decode.l0]) ?_
    refine ev_pos (by omega) (ev_bind (ev_eq (spec_WidthOf_eq _)) ?_)
    have e : (48 : Int) - ((d + 1 : Nat) : Int) = 47 - d := by omega
    have hw := width_in (k := 47 - (d : Int)) (by omega) (by omega)
    rw [e, decFrom, w64 (by omega) (by omega), show ((47 : Int) - d + 1) = 48 - d by omega]
    by_cases h : widthOf (47 - d) ≤ n
    · refine ev_neg (by omega) (ev_pos (by rw [wu64 (by omega) (by omega)]; omega) (ev_pos (by rw [w64 (by omega) (by omega), wu64 (by omega) (by omega)]; omega) (ev_bind (ev_eq (spec_BitsOf_eq _)) ?_)))
      rw [w64 (x := bitsOf _) (by omega) (by have := hw.2.2.2; have := two_pow_le (a := (widthOf (47 - (d : Int))).toNat) (b := 7) (by omega); omega)]
      rw [spec_head x n (widthOf (47 - d)) hx hn (by omega) h]
      have hh : hit x n (47 - d) ↔ x / 2 ^ (n - widthOf (47 - d)).toNat % 2 ^ (widthOf (47 - d)).toNat = bitsOf (47 - d) := ⟨fun k => k.2, fun k => ⟨h, k⟩⟩
      by_cases h' : hit x n (47 - d)
      · rw [if_pos h']; exact ev_pos (hh.1 h') (ev_ret rfl)
      · rw [if_neg h']; exact ev_neg (fun k => h' (hh.2 k)) (ih (by omega))
    · rw [if_neg (fun k => h k.1)]
      exact ev_pos (by omega) (ih (by omega))
theorem spec_Decode_ev (x n : Int) (hx : 0 ≤ x ∧ x ≤ 4294967295) : Ev (fun k => spec_Decode.f k x n) (dcode x n) := by
  refine ev_bind (ev_eq (spec_l01In_eq _ _ _)) ?_
  unfold dcode
  by_cases h : 1 ≤ n ∧ n ≤ 32
  · rw [if_pos h]; exact ev_pos (decide_eq_true h) (spec_Decode_l0 x n hx h 48 (by omega))
  · rw [if_neg h]; exact ev_neg (by simp only [decide_eq_true_eq]; exact h) (ev_ret rfl)

/-! ### spec_LetterAt -/
theorem spec_LetterAt_eq (k : Int) : spec_LetterAt.f k = some (if 0 ≤ k ∧ k ≤ 47 then bt lettersB k else 0) := by
  unfold spec_LetterAt.f spec_l02All.f
  simp only [spec_l01In_eq, Option.bind_some, decide_eq_true_eq]
  by_cases h : 0 ≤ k ∧ k ≤ 47
  · rw [if_pos h, if_pos h, if_pos h.1, if_pos (by show k < 48; omega)]; rfl
  · rw [if_neg h, if_neg h]

/-! ### spec_UnpackOne -/
theorem spec_UnpackOne_l0 (f : Int) (hf : 0 ≤ f ∧ f < 268435456) (d : Nat) : ∀ (acc : List UInt8) (left : Int), 0 ≤ left → left ≤ 28 → left ≤ 4 * d → acc.length + d ≤ 8 →
    Ev (fun k => spec_UnpackOne.l0 k f (acc.map (fun b => (b.toNat : Int))) left) (toB (acc ++ upk f d left)) := by
  induction d with
  | zero =>
    intro acc left h0 h1 h2 h3
    refine Ev.step (fun k => by rw [spec_UnpackOne.l0]) ?_
    refine ev_neg (by omega) ?_
    refine Ev.step (fun k => by rw [spec_UnpackOne.j1]) ?_
    refine ev_neg (by simp) (ev_ret ?_)
    rw [strOf_map]; simp [upk]
  | succ d ih =>
    intro acc left h0 h1 h2 h3
    rw [upk]
    by_cases hz : left = 0
    · subst hz
      refine Ev.step (fun k => by rw [spec_UnpackOne.l0]) ?_
      refine ev_neg (by omega) ?_
      refine Ev.step (fun k => by rw [spec_UnpackOne.j1]) ?_
      refine ev_neg (by simp) (ev_ret ?_)
      rw [strOf_map, if_pos (by simp)]; simp
    · refine Ev.step (fun k => by rw [spec_UnpackOne.l0]) ?_
      refine ev_pos (by omega) (ev_pos (by rw [wu64 (by omega) (by omega)]; omega) ?_)
      have := two_pow_le (a := left.toNat) (b := 28) (by omega)
      have := two_pow_pos left.toNat
      rw [w64 (x := f) (by omega) (by omega), wu64 (x := left) (by omega) (by omega), shl1_i64 (by omega) (by omega), w64 (by omega) (by omega), and_i64 (by omega) (by omega)]
      by_cases hm : f % 2 ^ left.toNat = 0
      · rw [if_pos hm]
        refine Ev.step (fun k => by rw [spec_UnpackOne.j1]) ?_
        refine ev_neg (by simp [hm]) (ev_ret ?_)
        rw [strOf_map]; simp
      · rw [if_neg hm]
        refine Ev.step (fun k => by rw [spec_UnpackOne.j1]) ?_
        refine ev_pos (by simp [hm]) (ev_bind (spec_Decode_ev f left (by omega)) ?_)
        have hd := dcode_range f left
        by_cases hk : (dcode f left).1 < 1
        · rw [if_pos hk]
          refine ev_pos hk (ev_ret ?_)
          rw [strOf_map]; simp
        · rw [if_neg hk]
          refine ev_neg hk (ev_bind (ev_eq (spec_LetterAt_eq _)) (ev_pos (by simp; omega) ?_))
          rw [if_pos (by omega), bt_letter (by omega) (by omega), w64 (by omega) (by omega), map_snoc]
          refine ev_to (ih (acc ++ [letter (dcode f left).1]) _ (by omega) (by omega) (by omega) (by simp; omega)) ?_
          simp
theorem spec_UnpackOne_ev (f : Int) (hf : 0 ≤ f ∧ f ≤ 4294967295) : Ev (fun k => spec_UnpackOne.f k f) (toB (unpackOne f)) := by
  unfold unpackOne
  by_cases h : f ≥ 268435456
  · rw [if_pos h]; exact ev_pos (by rw [w64 (by omega) (by omega)]; exact h) (ev_ret rfl)
  · rw [if_neg h]
    refine ev_neg (by rw [w64 (by omega) (by omega)]; exact h) ?_
    exact ev_to (spec_UnpackOne_l0 f (by omega) 8 [] 28 (by omega) (by omega) (by omega) (by simp)) (by simp)

/-! ### impl_within -/
theorem impl_within_eq (a b c : Int) : impl_within.f a b c = some (decide (b ≤ a ∧ a ≤ c)) := by
  unfold impl_within.f
  by_cases h : b ≤ a
  · rw [if_pos h]; simp [h]
  · rw [if_neg h]; simp [h]

/-! ### impl_LetterAt -/
theorem impl_LetterAt_eq (k : Int) : impl_LetterAt.f k = some (if 0 ≤ k ∧ k ≤ 47 then bt lettersB k else 0) := by
  unfold impl_LetterAt.f impl_letters.f
  simp only [impl_within_eq, Option.bind_some, decide_eq_true_eq]
  by_cases h : 0 ≤ k ∧ k ≤ 47
  · rw [if_pos h, if_pos h, if_pos h.1, if_pos (by show k < 48; omega)]; rfl
  · rw [if_neg h, if_neg h]

/-! ### impl_WidthOf -/
theorem impl_WidthOf_eq (k : Int) : impl_WidthOf.f k = some (widthOf k) := by
  unfold impl_WidthOf.f widthOf
  simp only [impl_within_eq, Option.bind_some, decide_eq_true_eq]
  by_cases h1 : 0 ≤ k ∧ k ≤ 7
  · rw [if_pos h1, if_pos h1]
  rw [if_neg h1, if_neg h1]
  by_cases h2 : 8 ≤ k ∧ k ≤ 15
  · rw [if_pos h2, if_pos h2]
  rw [if_neg h2, if_neg h2]
  by_cases h3 : 16 ≤ k ∧ k ≤ 47
  · rw [if_pos h3, if_pos h3]
  rw [if_neg h3, if_neg h3]

/-! ### impl_BitsOf -/
theorem impl_BitsOf_eq (k : Int) : impl_BitsOf.f k = some (bitsOf k) := by
  unfold impl_BitsOf.f
  simp only [impl_WidthOf_eq, Option.bind_some]
  rcases width_cases k with ⟨e1, e2, h⟩ | ⟨e1, e2, h⟩ | ⟨e1, e2, h⟩ | ⟨e1, e2, h⟩ <;> rw [e1, e2] <;> simp
  · omega
  · omega
  · omega

/-! ### impl_Decode -/
theorem impl_Decode_l0 (x n : Int) (hx : 0 ≤ x ∧ x ≤ 4294967295) (hn : 1 ≤ n ∧ n ≤ 32) (d : Nat) (hd : d ≤ 48) : Ev (fun k => impl_Decode.l0 k x n (48 - (d : Int))) (decFrom x n d) := by
  induction d with
  | zero =>
    refine Ev.step (fun k => by rw [impl_Decode.l0]) ?_
    refine ev_neg (by omega) (ev_ret ?_)
    rfl
  | succ d ih =>
    refine Ev.step (fun k => by rw [impl_Decode.l0]) ?_
    refine ev_pos (by omega) (ev_bind (ev_eq (impl_WidthOf_eq _)) ?_)
    have e : (48 : Int) - ((d + 1 : Nat) : Int) = 47 - d := by omega
    have hw := width_in (k := 47 - (d : Int)) (by omega) (by omega)
    rw [e, decFrom, w64 (x := 47 - (d : Int) + 1) (by omega) (by omega), show ((47 : Int) - d + 1) = 48 - d by omega]
    by_cases h : widthOf (47 - d) ≤ n
    · refine ev_pos h (ev_pos (by rw [w64 (by omega) (by omega)]; omega) (ev_pos (by omega) (ev_bind (ev_eq (impl_BitsOf_eq _)) ?_)))
      rw [impl_head x n (widthOf (47 - d)) hx hn (by omega) h]
      have hh : hit x n (47 - d) ↔ x / 2 ^ (n - widthOf (47 - d)).toNat % 2 ^ (widthOf (47 - d)).toNat = bitsOf (47 - d) := ⟨fun k => k.2, fun k => ⟨h, k⟩⟩
      by_cases h' : hit x n (47 - d)
      · rw [if_pos h']; exact ev_pos (hh.1 h') (ev_ret rfl)
      · rw [if_neg h']; exact ev_neg (fun k => h' (hh.2 k)) (ih (by omega))
    · rw [if_neg (fun k => h k.1)]
      exact ev_neg h (ih (by omega))
theorem impl_Decode_ev (x n : Int) (hx : 0 ≤ x ∧ x ≤ 4294967295) : Ev (fun k => impl_Decode.f k x n) (dcode x n) := by
  refine ev_bind (ev_eq (impl_within_eq _ _ _)) ?_
  unfold dcode
  by_cases h : 1 ≤ n ∧ n ≤ 32
  · rw [if_pos h]; exact ev_pos (decide_eq_true h) (impl_Decode_l0 x n hx h 48 (by omega))
  · rw [if_neg h]; exact ev_neg (by simp only [decide_eq_true_eq]; exact h) (ev_ret rfl)

/-! ### impl_UnpackOne -/
theorem impl_UnpackOne_l0 (f : Int) (hf : 0 ≤ f ∧ f < 268435456) (d : Nat) : ∀ (acc : List UInt8) (left : Int), 0 ≤ left → left ≤ 28 → left ≤ 4 * d → acc.length + d ≤ 8 →
    Ev (fun k => impl_UnpackOne.l0 k f (acc.map (fun b => (b.toNat : Int))) left) (toB (acc ++ upk f d left)) := by
  have stop : ∀ (acc : List UInt8) (left : Int), 0 ≤ left → left ≤ 28 → f % 2 ^ left.toNat = 0 → Ev (fun k => impl_UnpackOne.l0 k f (acc.map (fun b => (b.toNat : Int))) left) (toB acc) := by
    intro acc left h0 h1 hz
    refine Ev.step (fun k => by rw [impl_UnpackOne.l0]) ?_
    refine ev_pos h0 (ev_pos ?_ (ev_ret (strOf_map acc)))
    have := two_pow_le (a := left.toNat) (b := 28) (by omega)
    have := two_pow_pos left.toNat
    rw [shl1_u32 (by omega) (by omega), show ((2 : Int) ^ left.toNat - 1) % 4294967296 = 2 ^ left.toNat - 1 by omega, and_u32 (by omega) (by omega)]
    exact hz
  induction d with
  | zero =>
    intro acc left h0 h1 h2 h3
    have : left = 0 := by omega
    subst this
    rw [upk, List.append_nil]
    exact stop acc 0 (by omega) (by omega) (by simp)
  | succ d ih =>
    intro acc left h0 h1 h2 h3
    rw [upk]
    by_cases hm : f % 2 ^ left.toNat = 0
    · rw [if_pos hm, List.append_nil]
      exact stop acc left h0 h1 hm
    · rw [if_neg hm]
      refine Ev.step (fun k => by rw [impl_UnpackOne.l0]) ?_
      have := two_pow_le (a := left.toNat) (b := 28) (by omega)
      have := two_pow_pos left.toNat
      refine ev_pos h0 (ev_neg ?_ ?_)
      · rw [shl1_u32 (by omega) (by omega), show ((2 : Int) ^ left.toNat - 1) % 4294967296 = 2 ^ left.toNat - 1 by omega, and_u32 (by omega) (by omega)]
        exact hm
      refine ev_bind (impl_Decode_ev f left (by omega)) ?_
      have hd := dcode_range f left
      by_cases hk : (dcode f left).1 < 1
      · rw [if_pos hk]
        refine ev_pos hk (ev_ret ?_)
        rw [strOf_map]; simp
      · rw [if_neg hk]
        refine ev_neg hk (ev_bind (ev_eq (impl_LetterAt_eq _)) (ev_pos (by simp; omega) ?_))
        rw [if_pos (by omega), bt_letter (by omega) (by omega), w64 (by omega) (by omega), map_snoc]
        refine ev_to (ih (acc ++ [letter (dcode f left).1]) _ (by omega) (by omega) (by omega) (by simp; omega)) ?_
        simp
theorem impl_UnpackOne_ev (f : Int) (hf : 0 ≤ f ∧ f ≤ 4294967295) : Ev (fun k => impl_UnpackOne.f k f) (toB (unpackOne f)) := by
  unfold unpackOne
  by_cases h : f ≥ 268435456
  · rw [if_pos h]; exact ev_pos h (ev_ret rfl)
  · rw [if_neg h]
    refine ev_neg h ?_
    exact ev_to (impl_UnpackOne_l0 f (by omega) 8 [] 28 (by omega) (by omega) (by omega) (by simp)) (by simp)

/-! ### FnExactUnpackOne -/
theorem FnExactUnpackOne : laws_FnExactUnpackOne.Pure := by
  intro f w
  have h := wf_u32 w
  refine Ev.rounds (r := true) ?_
  exact ev_bind (spec_UnpackOne_ev f h) (ev_bind (impl_UnpackOne_ev f h) (ev_pos rfl (ev_ret rfl)))

end Go.Proofs.Ytmdjagnbbddnhaa.Pure
