/-
An item with another kind, as plain values; no conditions beyond those written in each.
-/
import Derived.Test.YtkkiibjnpkjijaaItems
namespace Go.Proofs.Ytkkiibjnpkjijaa.Plain
open Go.RowKit Go.Proofs.Ytkkiibjnpkjijaa.Tools Go.Proofs.YtkkiibjnpkjijaaW.PrintWords

def recolor (it : It) (k : Int) : Int × ByteArray × Int × Bool × Int × Bool :=
  if 0 < (cellsOf it).length ∧ ((1 ≤ it.kind ∧ it.kind ≤ 6 ∧ 1 ≤ k ∧ k ≤ 6) ∨ (7 ≤ it.kind ∧ it.kind ≤ 8 ∧ 7 ≤ k ∧ k ≤ 8) ∨ it.kind = k) then (k, toB it.name, it.n, it.hex, it.raw, true) else (0, ⟨#[]⟩, 0, false, 0, false)
theorem tagOf_cases (k : Int) : (0 < tagOf k ∧ 1 ≤ k ∧ k ≤ 6) ∨ (tagOf k = 0 ∧ ¬ (1 ≤ k ∧ k ≤ 6)) := by
  unfold tagOf
  repeat' split
  all_goals omega
theorem numCells_length (n : Int) (h : Bool) (s t s' t' : Int) : (numCells n h s t).length = (numCells n h s' t').length := by
  unfold numCells
  split <;> rfl
/-- An item that is coloured has as many cells. -/
theorem color_length (it : It) (k : Int) (h : (1 ≤ it.kind ∧ it.kind ≤ 6 ∧ 1 ≤ k ∧ k ≤ 6) ∨ (7 ≤ it.kind ∧ it.kind ≤ 8 ∧ 7 ≤ k ∧ k ≤ 8) ∨ it.kind = k) : (cellsOf ⟨k, it.name, it.n, it.hex, it.raw⟩).length = (cellsOf it).length := by
  obtain ⟨a, nm, n, hx, rw⟩ := it
  simp only at h ⊢
  rcases h with h | h | h
  · have h1 := tagOf_cases a
    have h2 := tagOf_cases k
    unfold cellsOf
    simp only
    rw [if_neg (show ¬ k = 0 by omega), if_neg (show ¬ k = 7 by omega), if_neg (show ¬ k = 8 by omega), if_neg (show ¬ k = 9 by omega), if_neg (show ¬ a = 0 by omega), if_neg (show ¬ a = 7 by omega), if_neg (show ¬ a = 8 by omega), if_neg (show ¬ a = 9 by omega)]
    by_cases g : n = 0 ∧ hx = false ∧ rw = 0
    · rw [if_pos ⟨by omega, g⟩, if_pos ⟨by omega, g⟩, word_length, word_length]
    · rw [if_neg (fun z => g z.2), if_neg (fun z => g z.2)]
  · have key : ∀ z : Int, z = 7 ∨ z = 8 → (cellsOf ⟨z, nm, n, hx, rw⟩).length = if nm = [] ∧ rw = 0 then (numCells n hx 8 2).length else 0 := by
      intro z hz
      unfold cellsOf
      simp only
      rcases hz with rfl | rfl
      · by_cases g : nm = [] ∧ rw = 0
        · simp [g]
        · simp [g]
      · by_cases g : nm = [] ∧ rw = 0
        · simp [g, numCells_length n hx 6 5 8 2]
        · simp [g]
    rw [key k (by omega), key a (by omega)]
  · rw [h]
end Go.Proofs.Ytkkiibjnpkjijaa.Plain
