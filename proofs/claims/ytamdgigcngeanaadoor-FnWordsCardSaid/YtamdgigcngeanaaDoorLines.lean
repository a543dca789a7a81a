/-
Lines of a text, as plain lists of bytes; no conditions beyond those written in each.
-/
import Derived.Test.YtamdgigcngeanaaDoorSpots
import Derived.Lib.Bytealg
namespace Go.Proofs.YtamdgigcngeanaaDoor.Plain
open Go.RowKit Go.Proofs.YtamdgigcngeanaaDoor.Tools Go.Proofs.YtamdgigcngeanaaDoorW.PrintWords

/-- The lines of what is left; 'cur': the line that is being read. -/
def linesFrom (cur : List UInt8) : List UInt8 → List (List UInt8)
  | [] => if cur = [] then [] else [cur]
  | b :: l => if b = 10 then cur :: linesFrom [] l else linesFrom (cur ++ [b]) l
def linesOf (l : List UInt8) : List (List UInt8) := linesFrom [] l
def splitFrom (cur : List UInt8) : List UInt8 → List (List UInt8)
  | [] => [cur]
  | b :: l => if b = 10 then cur :: splitFrom [] l else splitFrom (cur ++ [b]) l
def trimLast (xs : List (List UInt8)) : List (List UInt8) := if xs.getLast? = some [] then xs.dropLast else xs
theorem splitFrom_ne (l : List UInt8) : ∀ cur, splitFrom cur l ≠ [] := by
  induction l with
  | nil => intro cur; simp [splitFrom]
  | cons b l ih => 
    intro cur
    rw [splitFrom]
    split
    · simp
    · exact ih _
theorem trimLast_cons {x : List UInt8} {ys : List (List UInt8)} (h : ys ≠ []) : trimLast (x :: ys) = x :: trimLast ys := by
  obtain ⟨y, ys, rfl⟩ := List.exists_cons_of_ne_nil h
  unfold trimLast
  rw [List.getLast?_cons_cons]
  split
  · rw [List.dropLast_cons_cons]
  · rfl
theorem lines_split (l : List UInt8) : ∀ cur, linesFrom cur l = trimLast (splitFrom cur l) := by
  induction l with
  | nil =>
    intro cur
    rw [linesFrom, splitFrom, trimLast]
    by_cases h : cur = []
    · subst h; simp
    · rw [if_neg h, if_neg (by simpa using h)]
  | cons b l ih =>
    intro cur
    rw [linesFrom, splitFrom]
    split
    · rw [trimLast_cons (splitFrom_ne l []), ih]
    · exact ih _
theorem split_none (l : List UInt8) : ∀ cur, l.count 10 = 0 → splitFrom cur l = [cur ++ l] := by
  induction l with
  | nil => intro cur _; simp [splitFrom]
  | cons b l ih =>
    intro cur h
    have hb : b ≠ 10 := by intro e; subst e; simp at h
    rw [List.count_cons_of_ne hb] at h
    rw [splitFrom, if_neg hb, ih _ h, List.append_assoc, List.singleton_append]
theorem split_some (p q : List UInt8) : ∀ cur, p.count 10 = 0 → splitFrom cur (p ++ 10 :: q) = (cur ++ p) :: splitFrom [] q := by
  induction p with
  | nil => intro cur _; rw [List.nil_append, splitFrom, if_pos rfl, List.append_nil]
  | cons b p ih =>
    intro cur h
    have hb : b ≠ 10 := by intro e; subst e; simp at h
    rw [List.count_cons_of_ne hb] at h
    rw [List.cons_append, splitFrom, if_neg hb, ih _ h, List.append_assoc, List.singleton_append]
theorem split_at (l : List UInt8) (h : l.count 10 ≠ 0) : ∃ p q, l = p ++ 10 :: q ∧ p.count 10 = 0 := by
  induction l with
  | nil => simp at h
  | cons b l ih =>
    by_cases hb : b = 10
    · exact ⟨[], l, by rw [hb]; rfl, rfl⟩
    · rw [List.count_cons_of_ne hb] at h
      obtain ⟨p, q, rfl, hp⟩ := ih h
      exact ⟨b :: p, q, rfl, by rw [List.count_cons_of_ne hb]; exact hp⟩
theorem index_at (p q : List UInt8) (h : p.count 10 = 0) : Lib.indexByte (p ++ 10 :: q) 10 = (p.length : Int) := by
  induction p with
  | nil => simp [Lib.indexByte]
  | cons b p ih =>
    have hb : b ≠ 10 := by intro e; subst e; simp at h
    rw [List.count_cons_of_ne hb] at h
    have e := ih h
    rw [List.cons_append, Lib.indexByte, if_neg (by simpa using hb), e, if_neg (by simp), List.length_cons]
    omega
theorem splitFrom_length (l : List UInt8) : ∀ cur, (splitFrom cur l).length = l.count 10 + 1 := by
  induction l with
  | nil => intro cur; simp [splitFrom]
  | cons b l ih =>
    intro cur
    rw [splitFrom]
    by_cases hb : b = 10
    · subst hb; rw [if_pos rfl, List.length_cons, ih]; simp
    · rw [if_neg hb, ih, List.count_cons_of_ne hb]
theorem linesOf_length (l : List UInt8) : (linesOf l).length ≤ l.length + 1 := by
  have h := splitFrom_length l []
  have hc := List.count_le_length (a := (10 : UInt8)) (l := l)
  unfold linesOf
  rw [lines_split, trimLast]
  split
  · rw [List.length_dropLast]; omega
  · omega
theorem toB_size_one : ((⟨#[10]⟩ : ByteArray).size : Int) = 1 := rfl
theorem toB_empty_iff (l : List UInt8) : (toB l).toList = ([] : List UInt8) ↔ l = [] := by
  rw [ba_toList, toB_data]
end Go.Proofs.YtamdgigcngeanaaDoor.Plain
