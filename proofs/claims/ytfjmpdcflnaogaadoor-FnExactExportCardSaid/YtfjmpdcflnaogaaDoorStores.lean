/-
Stores of blocks and their bytes, as plain lists of numbers; no conditions beyond those written in each.
-/
import Derived.Test.YtfjmpdcflnaogaaDoorTools
import Derived.Test.YtfjmpdcflnaogaaDoorNums
import Derived.Test.YtfjmpdcflnaogaaDoorHeads
namespace Go.Proofs.YtfjmpdcflnaogaaDoor.Plain
open Go.RowKit Go.Proofs.YtfjmpdcflnaogaaDoor.Tools

def hasBlock (l : List Int) (b : Int) : Prop := ((l.length : Int) % 64 = 0 ∧ (l.length : Int) ≤ 768) ∧ 0 ≤ b ∧ b < (l.length : Int) / 64
instance (l : List Int) (b : Int) : Decidable (hasBlock l b) := by unfold hasBlock; infer_instance
def blockAt (l : List Int) (b : Int) : List Int := (l.take ((b + 1) * 64).toNat).drop (b * 64).toNat
def blockOf (l : List Int) (b : Int) : List Int × Bool := if hasBlock l b then (blockAt l b, true) else ([], false)
theorem blockAt_length {l : List Int} {b : Int} (h : hasBlock l b) : (blockAt l b).length = 64 := by
  obtain ⟨⟨h1, h2⟩, h3, h4⟩ := h
  unfold blockAt
  rw [List.length_drop, List.length_take]
  omega
theorem blockOf_length (l : List Int) (b : Int) : (blockOf l b).1.length ≤ 64 := by
  unfold blockOf
  split
  · rename_i h; rw [blockAt_length h]; omega
  · simp
def four (c : Int) : List Int := [c % 256, c / 256 % 256, c / 65536 % 256, c / 16777216 % 256]
def bytesFrom : List Int → List Int
  | [] => []
  | c :: l => four c ++ bytesFrom l
def imageOf (l : List Int) : List Int := if (l.length : Int) % 64 = 0 ∧ (l.length : Int) ≤ 768 then [(l.length : Int) / 64 % 256] ++ bytesFrom (l ++ [sumOf l]) else []
theorem bytesFrom_length (l : List Int) : (bytesFrom l).length = 4 * l.length := by
  induction l with
  | nil => rfl
  | cons c l ih => simp [bytesFrom, four, ih]; omega
theorem bytesFrom_append (a b : List Int) : bytesFrom (a ++ b) = bytesFrom a ++ bytesFrom b := by
  induction a with
  | nil => rfl
  | cons c l ih => simp [bytesFrom, ih]
theorem imageOf_length (l : List Int) : (imageOf l).length ≤ 3077 := by
  unfold imageOf
  split
  · rw [List.length_append, bytesFrom_length]; simp; omega
  · simp
theorem sumFrom_range (l : List Int) : ∀ h : Int, 0 ≤ h ∧ h ≤ 4294967295 → 0 ≤ sumFrom h l ∧ sumFrom h l ≤ 4294967295 := by
  induction l with
  | nil => intro h hh; exact hh
  | cons c l ih => intro h hh; exact ih _ (by omega)
theorem sumOf_range (l : List Int) : 0 ≤ sumOf l ∧ sumOf l ≤ 4294967295 := sumFrom_range l _ (by omega)
/-- What the law writes into d bytes, from m on. -/
def marksB (m : Int) : Nat → List Int
  | 0 => []
  | d + 1 => m % 256 :: marksB (m + 1) d
theorem marksB_length (d : Nat) : ∀ m, (marksB m d).length = d := by
  induction d with
  | zero => intro m; rfl
  | succ d ih => intro m; simp [marksB, ih]
end Go.Proofs.YtfjmpdcflnaogaaDoor.Plain
