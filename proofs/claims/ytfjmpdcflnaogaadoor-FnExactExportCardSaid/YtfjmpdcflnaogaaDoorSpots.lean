/-
Words of a text with their places, as plain lists of bytes; no conditions beyond those written in each.
-/
import Derived.Test.YtfjmpdcflnaogaaDoorTools
namespace Go.Proofs.YtfjmpdcflnaogaaDoor.Plain
open Go.RowKit Go.Proofs.YtfjmpdcflnaogaaDoor.Tools Go.Proofs.YtfjmpdcflnaogaaDoorW.PrintWords

/-- A text out of its bytes. -/
def toB (l : List UInt8) : ByteArray := ⟨l.toArray⟩
theorem toB_data (l : List UInt8) : (toB l).data.toList = l := rfl
theorem toB_size (l : List UInt8) : (toB l).size = l.length := by show l.toArray.size = l.length; simp
theorem toB_self (s : ByteArray) : toB s.data.toList = s := ba_ext (toB_data _)
theorem size_eq (s : ByteArray) : s.size = s.data.toList.length := by rw [Array.length_toList]; rfl
theorem extract_eq (s : ByteArray) (a b : Nat) : s.extract a b = toB ((s.data.toList.take b).drop a) := by
  apply ba_ext
  rw [toB_data, ByteArray.data_extract, Array.toList_extract, List.extract_eq_take_drop, List.drop_take]
def blankB (b : UInt8) : Bool := b == 32 || b == 9 || b == 10
/-- The words of what is left, each with its place; the second: the word that is being read, with its place. -/
def spotsC : List UInt8 → Option (List UInt8 × Nat) → Nat → List (List UInt8 × Nat)
  | [], none, _ => []
  | [], some c, _ => [c]
  | b :: l, none, i => if blankB b then spotsC l none (i + 1) else spotsC l (some ([b], i)) (i + 1)
  | b :: l, some c, i => if blankB b then c :: spotsC l none (i + 1) else spotsC l (some (c.1 ++ [b], c.2)) (i + 1)
def spotsOf (l : List UInt8) : List (List UInt8 × Nat) := spotsC l none 0
theorem spotsC_length (l : List UInt8) : ∀ c i, (spotsC l c i).length ≤ l.length + (if c.isSome then 1 else 0) := by
  induction l with
  | nil => intro c i; cases c <;> simp [spotsC]
  | cons b l ih =>
    intro c i
    cases c with
    | none =>
      unfold spotsC
      split
      · have := ih none (i + 1); simp at this ⊢; omega
      · have := ih (some ([b], i)) (i + 1); simp at this ⊢; omega
    | some c =>
      unfold spotsC
      split
      · have := ih none (i + 1); simp at this ⊢; omega
      · have := ih (some (c.1 ++ [b], c.2)) (i + 1); simp at this ⊢; omega
theorem spotsOf_length (l : List UInt8) : (spotsOf l).length ≤ l.length := by
  have := spotsC_length l none 0
  simpa [spotsOf] using this
theorem blank_iff (b : UInt8) : blankB b = true ↔ ((b.toNat : Int) = 32 ∨ (b.toNat : Int) = 9 ∨ (b.toNat : Int) = 10) := by
  unfold blankB
  simp only [Bool.or_eq_true, beq_iff_eq, ← UInt8.toNat_inj]
  simp only [UInt8.reduceToNat]
  omega
theorem getB {s : ByteArray} {i : Nat} (h : i < s.size) : s[i] = s.data.toList[i]'(by rw [← size_eq]; exact h) := rfl
theorem drop_cons {s : ByteArray} {i : Nat} (h : i < s.size) : s.data.toList.drop i = s[i] :: s.data.toList.drop (i + 1) := by
  rw [List.drop_eq_getElem_cons (by rw [← size_eq]; exact h)]; rfl
theorem cut_snoc {s : ByteArray} {a i : Nat} (h : i < s.size) (ha : a ≤ i) : (s.data.toList.take (i + 1)).drop a = (s.data.toList.take i).drop a ++ [s[i]] := by
  rw [List.take_succ_eq_append_getElem (by rw [← size_eq]; exact h), List.drop_append_of_le_length (by rw [List.length_take, ← size_eq]; omega)]; rfl
end Go.Proofs.YtfjmpdcflnaogaaDoor.Plain
