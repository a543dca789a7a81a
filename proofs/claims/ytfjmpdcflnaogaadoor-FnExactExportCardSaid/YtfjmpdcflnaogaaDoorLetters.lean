/-
Letters as plain numbers: widths, codes, and the first code in a row of bits; no conditions beyond those written in each.
-/
import Derived.Test.YtfjmpdcflnaogaaDoorTools
namespace Go.Proofs.YtfjmpdcflnaogaaDoor.Plain
open Go.Proofs.YtfjmpdcflnaogaaDoor.Tools

/-- The letters, each a byte. -/
def lettersB : ByteArray := ⟨#[32, 114, 116, 111, 101, 97, 110, 105, 115, 109, 99, 121, 108, 103, 102, 119, 100, 118, 112, 98, 104, 120, 117, 113, 48, 49, 50, 51, 52, 53, 54, 55, 56, 57, 106, 45, 107, 46, 122, 47, 59, 39, 33, 43, 64, 42, 44, 63]⟩
/-- How many bits a letter's code has. -/
def widthOf (k : Int) : Int := if 0 ≤ k ∧ k ≤ 7 then 4 else if 8 ≤ k ∧ k ≤ 15 then 5 else if 16 ≤ k ∧ k ≤ 47 then 7 else 0
/-- Its code. -/
def bitsOf (k : Int) : Int := if 0 ≤ k ∧ k ≤ 7 then k else if 8 ≤ k ∧ k ≤ 15 then k + 8 else if 16 ≤ k ∧ k ≤ 47 then k + 80 else 0
/-- Does letter k's code stand at the head of n bits? -/
def hit (x n k : Int) : Prop := widthOf k ≤ n ∧ x / 2 ^ (n - widthOf k).toNat % 2 ^ (widthOf k).toNat = bitsOf k
instance (x n k : Int) : Decidable (hit x n k) := by unfold hit; infer_instance
/-- The first letter from 48 - d on whose code stands there. -/
def decFrom (x n : Int) : Nat → Int × Int
  | 0 => (-1, 0)
  | d + 1 => if hit x n (47 - d) then (47 - d, widthOf (47 - d)) else decFrom x n d
def dcode (x n : Int) : Int × Int := if 1 ≤ n ∧ n ≤ 32 then decFrom x n 48 else (-1, 0)

theorem width_cases (k : Int) : (widthOf k = 4 ∧ bitsOf k = k ∧ 0 ≤ k ∧ k ≤ 7) ∨ (widthOf k = 5 ∧ bitsOf k = k + 8 ∧ 8 ≤ k ∧ k ≤ 15) ∨ (widthOf k = 7 ∧ bitsOf k = k + 80 ∧ 16 ≤ k ∧ k ≤ 47) ∨ (widthOf k = 0 ∧ bitsOf k = 0 ∧ (k < 0 ∨ 47 < k)) := by
  unfold widthOf bitsOf
  by_cases h1 : 0 ≤ k ∧ k ≤ 7
  · left; rw [if_pos h1, if_pos h1]; omega
  rw [if_neg h1, if_neg h1]
  by_cases h2 : 8 ≤ k ∧ k ≤ 15
  · right; left; rw [if_pos h2, if_pos h2]; omega
  rw [if_neg h2, if_neg h2]
  by_cases h3 : 16 ≤ k ∧ k ≤ 47
  · right; right; left; rw [if_pos h3, if_pos h3]; omega
  rw [if_neg h3, if_neg h3]
  right; right; right; omega
theorem width_in {k : Int} (h0 : 0 ≤ k) (h1 : k ≤ 47) : 4 ≤ widthOf k ∧ widthOf k ≤ 7 ∧ 0 ≤ bitsOf k ∧ bitsOf k < 2 ^ (widthOf k).toNat := by
  rcases width_cases k with h | h | h | h <;> obtain ⟨e1, e2, h⟩ := h <;> rw [e1, e2] <;> simp <;> omega
end Go.Proofs.YtfjmpdcflnaogaaDoor.Plain
