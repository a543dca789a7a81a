/-
Sums, marks and stores as plain lists of numbers; no conditions beyond those written in each.
-/
import Derived.Test.YtfjmpdcflnaogaaDoorTools
namespace Go.Proofs.YtfjmpdcflnaogaaDoor.Plain
open Go.Proofs.YtfjmpdcflnaogaaDoor.Tools

/-- The sum of cells, from h on. -/
def sumFrom (h : Int) : List Int → Int
  | [] => h
  | x :: l => sumFrom ((Go.bits .xor .u32 h x * 16777619) % 4294967296) l
def sumOf (l : List Int) : Int := sumFrom 2166136261 l
/-- What the law writes into d cells, from m on. -/
def marksU (m : Int) : Nat → List Int
  | 0 => []
  | d + 1 => m % 4294967296 :: marksU (m + 1) d
theorem marksU_length (d : Nat) : ∀ m, (marksU m d).length = d := by
  induction d with
  | zero => intro m; rfl
  | succ d ih => intro m; simp [marksU, ih]
/-- A store of n blocks, or none. -/
def newStore (n : Int) : List Int := if 0 ≤ n ∧ n ≤ 12 then List.replicate (n * 64).toNat 0 else []
theorem newStore_length (n : Int) : (newStore n).length ≤ 768 := by
  unfold newStore; split <;> simp; omega
end Go.Proofs.YtfjmpdcflnaogaaDoor.Plain
