/-
The law FnExactLetterOf holds of the printed plain functions, for all arguments that the printed bounds allow.
-/
import Derived.Test.YtbgnhdnbgobeeaaQFnExactLetterOfx1
import Derived.Test.YtbgnhdnbgobeeaaTools
import Derived.Test.YtbgnhdnbgobeeaaLetters
import Derived.Test.YtbgnhdnbgobeeaaHeads
import Derived.Test.YtbgnhdnbgobeeaaSpots
import Derived.Test.YtbgnhdnbgobeeaaNames
namespace Go.Proofs.Ytbgnhdnbgobeeaa.Pure
open Go.RowKit Go.Proofs.Ytbgnhdnbgobeeaa.QFnExactLetterOf Go.Proofs.YtbgnhdnbgobeeaaW.PrintWords Go.Proofs.YtbgnhdnbgobeeaaW.PrintLast Go.Proofs.YtbgnhdnbgobeeaaW.PrintMore Go.Proofs.Ytbgnhdnbgobeeaa.Tools Go.Proofs.Ytbgnhdnbgobeeaa.Plain
set_option linter.unusedVariables false

/-! ### spec_LetterOf -/
theorem spec_LetterOf_all : ∀ b : UInt8, spec_LetterOf.f 49 (b.toNat : Int) = some (lo b) := all_bytes (by decide +kernel)
theorem spec_LetterOf_ev (b : UInt8) : Ev (fun k => spec_LetterOf.f k (b.toNat : Int)) (lo b) := Ev.of (spec_LetterOf.mono _) (spec_LetterOf_all b)

/-! ### strings_IndexByte -/
theorem strings_IndexByte_eq (b : UInt8) : strings_IndexByte.f lettersB (b.toNat : Int) = some (lo b) := by
  unfold strings_IndexByte.f stringslite_IndexByte.f lo
  simp

/-! ### impl_LetterOf -/
theorem impl_LetterOf_eq (b : UInt8) : impl_LetterOf.f (b.toNat : Int) = some (lo b) := by
  unfold impl_LetterOf.f
  have e : impl_letters.f = some lettersB := rfl
  rw [e]
  simp only [Option.bind_some]
  rw [strings_IndexByte_eq]
  rfl

/-! ### FnExactLetterOf -/
theorem FnExactLetterOf : laws_FnExactLetterOf.Pure := by
  intro a0 w0
  have h := wf_u8 w0
  obtain ⟨b, rfl⟩ : ∃ b : UInt8, a0 = (b.toNat : Int) := ⟨UInt8.ofNat a0.toNat, by simp; omega⟩
  refine Ev.rounds (r := true) ?_
  exact ev_bind (spec_LetterOf_ev b) (ev_bind (ev_eq (impl_LetterOf_eq b)) (ev_pos rfl (ev_ret rfl)))

end Go.Proofs.Ytbgnhdnbgobeeaa.Pure
