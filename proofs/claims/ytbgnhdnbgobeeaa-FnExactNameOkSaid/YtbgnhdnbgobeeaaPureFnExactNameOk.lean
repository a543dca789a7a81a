/-
The law FnExactNameOk holds of the printed plain functions, for all arguments that the printed bounds allow.
-/
import Derived.Test.YtbgnhdnbgobeeaaQFnExactNameOkx1
import Derived.Test.YtbgnhdnbgobeeaaTools
import Derived.Test.YtbgnhdnbgobeeaaLetters
import Derived.Test.YtbgnhdnbgobeeaaHeads
import Derived.Test.YtbgnhdnbgobeeaaSpots
import Derived.Test.YtbgnhdnbgobeeaaNames
namespace Go.Proofs.Ytbgnhdnbgobeeaa.Pure
open Go.RowKit Go.Proofs.Ytbgnhdnbgobeeaa.QFnExactNameOk Go.Proofs.YtbgnhdnbgobeeaaW.PrintWords Go.Proofs.YtbgnhdnbgobeeaaW.PrintLast Go.Proofs.YtbgnhdnbgobeeaaW.PrintMore Go.Proofs.Ytbgnhdnbgobeeaa.Tools Go.Proofs.Ytbgnhdnbgobeeaa.Plain
set_option linter.unusedVariables false

/-! ### spec_LetterOf -/
theorem spec_LetterOf_all : ∀ b : UInt8, spec_LetterOf.f 49 (b.toNat : Int) = some (lo b) := all_bytes (by decide +kernel)
theorem spec_LetterOf_ev (b : UInt8) : Ev (fun k => spec_LetterOf.f k (b.toNat : Int)) (lo b) := Ev.of (spec_LetterOf.mono _) (spec_LetterOf_all b)

/-! ### spec_l01In -/
theorem spec_l01In_eq (a b c : Int) : spec_l01In.f a b c = some (decide (b ≤ a ∧ a ≤ c)) := by
  unfold spec_l01In.f
  by_cases h : b ≤ a
  · rw [if_pos h]; simp [h]
  · rw [if_neg h]; simp [h]

/-! ### spec_NameOk -/
theorem spec_NameOk_l0 (s : ByteArray) (hs : s.size ≤ 24) (d : Nat) : ∀ i : Nat, i + d = s.size → Ev (fun k => spec_NameOk.l0 k s (i : Int)) ((s.data.toList.drop i).all (fun b => decide (1 ≤ lo b))) := by
  induction d with
  | zero =>
    intro i hi
    refine Ev.step (fun k => by rw [spec_NameOk.l0]) ?_
    refine ev_neg (by omega) (ev_ret ?_)
    rw [List.drop_of_length_le (by rw [← size_eq]; omega)]; rfl
  | succ d ih =>
    intro i hi
    have hlt : i < s.size := by omega
    refine Ev.step (fun k => by rw [spec_NameOk.l0]) ?_
    refine ev_pos (by omega) (ev_pos (by omega) (ev_bind (by rw [bt_at hlt]; exact spec_LetterOf_ev _) ?_))
    rw [drop_cons hlt, List.all_cons]
    by_cases h : 1 ≤ lo s[i]
    · refine ev_neg (by omega) ?_
      rw [w64 (by omega) (by omega), show ((i : Int) + 1) = ((i + 1 : Nat) : Int) by omega, decide_eq_true h, Bool.true_and]
      exact ih (i + 1) (by omega)
    · refine ev_pos (by omega) (ev_ret ?_)
      rw [decide_eq_false h, Bool.false_and]
theorem spec_NameOk_ev (s : ByteArray) : Ev (fun k => spec_NameOk.f k s) (okName s.data.toList) := by
  refine ev_bind (ev_eq (spec_l01In_eq _ _ _)) ?_
  unfold okName
  rw [← size_eq]
  by_cases h : 1 ≤ (s.size : Int) ∧ (s.size : Int) ≤ 24
  · refine ev_pos (decide_eq_true h) ?_
    rw [decide_eq_true (show 1 ≤ s.size by omega), decide_eq_true (show s.size ≤ 24 by omega), Bool.true_and, Bool.true_and]
    exact spec_NameOk_l0 s (by omega) s.size 0 (by omega)
  · refine ev_neg (by simp only [decide_eq_true_eq]; exact h) (ev_ret ?_)
    by_cases h1 : 1 ≤ s.size
    · rw [decide_eq_false (show ¬ s.size ≤ 24 by omega)]; simp
    · rw [decide_eq_false h1]; simp

/-! ### strings_IndexByte -/
theorem strings_IndexByte_eq (b : UInt8) : strings_IndexByte.f lettersB (b.toNat : Int) = some (lo b) := by
  unfold strings_IndexByte.f stringslite_IndexByte.f lo
  simp

/-! ### impl_LetterOf -/
theorem impl_LetterOf_eq (b : UInt8) : impl_LetterOf.f (b.toNat : Int) = some (lo b) := by
  unfold impl_LetterOf.f
  have e : impl_letters.f = some lettersB := rfl
  rw [e]
  simp only [Option.bind_some]
  rw [strings_IndexByte_eq]
  rfl

/-! ### impl_within -/
theorem impl_within_eq (a b c : Int) : impl_within.f a b c = some (decide (b ≤ a ∧ a ≤ c)) := by
  unfold impl_within.f
  by_cases h : b ≤ a
  · rw [if_pos h]; simp [h]
  · rw [if_neg h]; simp [h]

/-! ### impl_NameOk -/
theorem impl_NameOk_l0 (s : ByteArray) (hs : s.size ≤ 1048576) (d : Nat) : ∀ i : Nat, i + d = s.size → Ev (fun k => impl_NameOk.l0 k s (s.size : Int) (i : Int)) ((s.data.toList.drop i).all (fun b => decide (1 ≤ lo b)) && decide (1 ≤ s.size ∧ s.size ≤ 24)) := by
  induction d with
  | zero =>
    intro i hi
    refine Ev.step (fun k => by rw [impl_NameOk.l0]) ?_
    refine ev_neg (by omega) (ev_bind (ev_eq (impl_within_eq _ _ _)) (ev_ret ?_))
    rw [List.drop_of_length_le (by rw [← size_eq]; omega), List.all_nil, Bool.true_and]
    rw [Bool.eq_iff_iff, decide_eq_true_eq, decide_eq_true_eq]; omega
  | succ d ih =>
    intro i hi
    have hlt : i < s.size := by omega
    refine Ev.step (fun k => by rw [impl_NameOk.l0]) ?_
    refine ev_pos (by omega) (ev_pos (by omega) (ev_pos (by omega) (ev_bind (ev_eq (by rw [bt_at hlt]; exact impl_LetterOf_eq _)) ?_)))
    rw [drop_cons hlt, List.all_cons]
    by_cases h : 1 ≤ lo s[i]
    · refine ev_neg (by omega) ?_
      rw [w64 (by omega) (by omega), show ((i : Int) + 1) = ((i + 1 : Nat) : Int) by omega, decide_eq_true h, Bool.true_and]
      exact ih (i + 1) (by omega)
    · refine ev_pos (by omega) (ev_ret ?_)
      rw [decide_eq_false h, Bool.false_and, Bool.false_and]
theorem impl_NameOk_ev (s : ByteArray) (hs : s.size ≤ 1048576) : Ev (fun k => impl_NameOk.f k s) (okName s.data.toList) := by
  refine ev_to (impl_NameOk_l0 s hs s.size 0 (by omega)) ?_
  unfold okName
  rw [← size_eq, List.drop_zero, Bool.eq_iff_iff]
  simp only [Bool.and_eq_true, decide_eq_true_eq]
  exact ⟨fun h => ⟨h.2, h.1⟩, fun h => ⟨h.2, h.1⟩⟩

/-! ### FnExactNameOk -/
theorem FnExactNameOk : laws_FnExactNameOk.Pure := by
  intro s hs
  refine Ev.rounds (r := true) ?_
  refine ev_ite (fun _ => ev_ret rfl) (fun h => ?_)
  refine ev_bind (spec_NameOk_ev s) (ev_bind (impl_NameOk_ev s (by omega)) ?_)
  exact ev_neg (by simp) (ev_ret rfl)

end Go.Proofs.Ytbgnhdnbgobeeaa.Pure
