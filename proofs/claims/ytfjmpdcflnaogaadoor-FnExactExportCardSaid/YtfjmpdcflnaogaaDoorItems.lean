/-
Items and their cells, as plain values; no conditions beyond those written in each.
-/
import Derived.Test.YtfjmpdcflnaogaaDoorNames
namespace Go.Proofs.YtfjmpdcflnaogaaDoor.Plain
open Go.RowKit Go.Proofs.YtfjmpdcflnaogaaDoor.Tools Go.Proofs.YtfjmpdcflnaogaaDoorW.PrintWords

structure It where
  kind : Int
  name : List UInt8
  n : Int
  hex : Bool
  raw : Int
  deriving DecidableEq
def tagOf (kind : Int) : Int := if kind = 1 then 1 else if kind = 2 then 3 else if kind = 3 then 4 else if kind = 4 then 9 else if kind = 5 then 10 else if kind = 6 then 11 else 0
def kindOf (tag : Int) : Int := if tag = 1 then 1 else if tag = 3 then 2 else if tag = 4 then 3 else if tag = 9 then 4 else if tag = 10 then 5 else if tag = 11 then 6 else 0
def word (tag : Int) : List Int → List Int
  | [] => []
  | f :: r => (f * 16 + tag) :: r.map (· * 16)
def bitOf (hex : Bool) : Int := if hex = true then 16 else 0
def numCells (n : Int) (hex : Bool) (short long : Int) : List Int :=
  if -67108864 ≤ n ∧ n ≤ 67108863 then [n % 134217728 * 32 + bitOf hex + short] else [bitOf hex + long, n % 4294967296]
def cellsOf (it : It) : List Int :=
  if it.kind = 0 then (if it.name = [] ∧ it.n = 0 ∧ it.hex = false then [it.raw] else [])
  else if it.kind = 7 then (if it.name = [] ∧ it.raw = 0 then numCells it.n it.hex 8 2 else [])
  else if it.kind = 8 then (if it.name = [] ∧ it.raw = 0 then numCells it.n it.hex 6 5 else [])
  else if it.kind = 9 then (if it.hex = false ∧ it.raw = 0 ∧ (pack it.name).length = 1 then word 12 (pack it.name) ++ [it.n % 4294967296] else [])
  else if 0 < tagOf it.kind ∧ it.n = 0 ∧ it.hex = false ∧ it.raw = 0 then word (tagOf it.kind) (pack it.name) else []
def rawIt (c : Int) : It := ⟨0, [], 0, false, c⟩
/-- The cells behind a word's first one that belong to it. -/
def tailOf (l : List Int) : List Int := l.takeWhile (fun c => decide (c % 16 = 0) && decide (c ≠ 0))
def hexOf (c : Int) : Bool := decide (c / 16 % 2 = 1)
/-- The item at the head of cells, and how many cells it has. -/
def parseOne (c : Int) (rest : List Int) : It × Nat :=
  if 0 < kindOf (c % 16) then
    (if (unpack (c / 16 :: (tailOf rest).map (· / 16))).2 = true then (⟨kindOf (c % 16), (unpack (c / 16 :: (tailOf rest).map (· / 16))).1, 0, false, 0⟩, (tailOf rest).length + 1) else (rawIt c, 1))
  else if c % 16 = 8 then (⟨7, [], wrap32 c / 32, hexOf c, 0⟩, 1)
  else if c % 16 = 6 then (⟨8, [], wrap32 c / 32, hexOf c, 0⟩, 1)
  else if c % 16 = 2 ∨ c % 16 = 5 then
    (match rest with
    | [] => (rawIt c, 1)
    | d :: _ => if c < 32 ∧ ¬ (-67108864 ≤ wrap32 d ∧ wrap32 d ≤ 67108863) then (⟨if c % 16 = 5 then 8 else 7, [], wrap32 d, hexOf c, 0⟩, 2) else (rawIt c, 1))
  else if c % 16 = 12 then
    (match rest with
    | [] => (rawIt c, 1)
    | d :: _ => if fieldOk (c / 16) = true then (⟨9, unpackOne (c / 16), wrap32 d, false, 0⟩, 2) else (rawIt c, 1))
  else (rawIt c, 1)
def parseF : Nat → List Int → List It
  | 0, _ => []
  | _, [] => []
  | k + 1, c :: rest => (parseOne c rest).1 :: parseF k ((c :: rest).drop (parseOne c rest).2)
theorem toB_nil_iff (l : List UInt8) : (toB l).toList = ([] : List UInt8) ↔ l = [] := by
  rw [ba_toList, toB_data]
theorem word_zero (l : List Int) : word 0 l = l.map (· * 16) := by
  cases l with
  | nil => rfl
  | cons f r => simp [word]
theorem word_length (t : Int) (l : List Int) : (word t l).length = l.length := by
  cases l with
  | nil => rfl
  | cons f r => simp [word]
theorem word_getElem (t : Int) (l : List Int) (i : Nat) (h : i < l.length) : (word t l)[i]'(by rw [word_length]; exact h) = if i = 0 then l[i] * 16 + t else l[i] * 16 := by
  cases l with
  | nil => simp at h
  | cons f r =>
    cases i with
    | zero => simp [word]
    | succ i => simp [word]
theorem set_mid {a b : List Int} {x v : Int} {i : Nat} (h : i = a.length) : (a ++ x :: b).set i v = a ++ v :: b := by
  subst h
  simp
theorem rd_mid {a b : List Int} {x : Int} {i : Nat} (h : i = a.length) : rd (a ++ x :: b) (i : Int) = x := by
  subst h
  simp [rd]
theorem tagOf_range (k : Int) : 0 ≤ tagOf k ∧ tagOf k ≤ 11 := by
  unfold tagOf
  repeat' split
  all_goals omega
theorem tagOf_pos {k : Int} (h : 0 < tagOf k) : 1 ≤ k ∧ k ≤ 6 := by
  unfold tagOf at h
  repeat' split at h
  all_goals omega
/-- Without the noughts at the end. -/
def trimR (l : List It) : List It := (l.reverse.dropWhile (fun it => decide (it = rawIt 0))).reverse
def parse (cells : List Int) : List It := if cells.length > 64 then [] else trimR (parseF cells.length cells)
def unparseFrom (out : List Int) : List It → List Int × Bool
  | [] => (out, true)
  | it :: l => if cellsOf it = [] ∨ out.length + (cellsOf it).length > 64 then ([], false) else unparseFrom (out ++ cellsOf it) l
def unparse (l : List It) : List Int × Bool := unparseFrom [] l
def listOk (l : List It) : Bool := (unparse l).2 && decide (parse (unparse l).1 = l)
theorem cellsOf_length (it : It) : (cellsOf it).length ≤ 25 := by
  have hp := pack_length it.name
  have hw := fun t => word_length t (pack it.name)
  unfold cellsOf numCells
  repeat' split
  all_goals simp [hw]
  all_goals omega
end Go.Proofs.YtfjmpdcflnaogaaDoor.Plain
