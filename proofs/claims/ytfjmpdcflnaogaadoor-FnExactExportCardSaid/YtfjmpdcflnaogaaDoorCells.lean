/-
The range of an item's cells; no conditions beyond those written in each.
-/
import Derived.Test.YtfjmpdcflnaogaaDoorItems
import Derived.Test.YtfjmpdcflnaogaaDoorRound
import Derived.Test.YtfjmpdcflnaogaaDoorDraws
namespace Go.Proofs.YtfjmpdcflnaogaaDoor.Plain
open Go.RowKit Go.Proofs.YtfjmpdcflnaogaaDoor.Tools Go.Proofs.YtfjmpdcflnaogaaDoorW.PrintWords

theorem w32_range (x : Int) : -2147483648 ≤ wrap32 x ∧ wrap32 x ≤ 2147483647 := by
  unfold wrap32; omega
theorem word_range (t : Int) (ht : 0 ≤ t ∧ t ≤ 15) (l : List Int) (hl : ∀ f ∈ l, 0 ≤ f ∧ f < 268435456) : ∀ x ∈ word t l, 0 ≤ x ∧ x ≤ 4294967295 := by
  cases l with
  | nil => intro x hx; simp [word] at hx
  | cons f r =>
    intro x hx
    rw [word, List.mem_cons] at hx
    rcases hx with hx | hx
    · have := hl f List.mem_cons_self
      omega
    · obtain ⟨y, hy, rfl⟩ := List.mem_map.1 hx
      have := hl y (List.mem_cons_of_mem _ hy)
      omega
theorem bitOf_range (h : Bool) : 0 ≤ bitOf h ∧ bitOf h ≤ 16 := by
  unfold bitOf; split <;> omega
theorem numCells_range (n : Int) (hex : Bool) (s l : Int) (hs : 0 ≤ s ∧ s ≤ 15) (hl : 0 ≤ l ∧ l ≤ 15) : ∀ x ∈ numCells n hex s l, 0 ≤ x ∧ x ≤ 4294967295 := by
  have hb := bitOf_range hex
  have hb2 : bitOf hex = 0 ∨ bitOf hex = 16 := by unfold bitOf; split <;> omega
  unfold numCells
  split
  · intro x hx
    rw [List.mem_singleton] at hx
    omega
  · intro x hx
    rw [List.mem_cons, List.mem_singleton] at hx
    omega
theorem cellsOf_range (it : It) (hr : 0 ≤ it.raw ∧ it.raw ≤ 4294967295) : ∀ x ∈ cellsOf it, 0 ≤ x ∧ x ≤ 4294967295 := by
  have hp : ∀ f ∈ pack it.name, 0 ≤ f ∧ f < 268435456 := fun f hf => (pack_fields f hf).2
  have ht := tagOf_range it.kind
  have hw := fun t h => word_range t h (pack it.name) hp
  have h12 := hw 12 (by omega)
  have htag := hw (tagOf it.kind) (by omega)
  have hn1 := numCells_range it.n it.hex 8 2 (by omega) (by omega)
  have hn2 := numCells_range it.n it.hex 6 5 (by omega) (by omega)
  unfold cellsOf
  intro x hx
  repeat' split at hx
  all_goals first
    | exact hn1 x hx
    | exact hn2 x hx
    | exact htag x hx
    | (rcases List.mem_append.1 hx with hx | hx <;> first | exact h12 x hx | (rw [List.mem_singleton] at hx; omega))
    | (rw [List.mem_singleton] at hx; omega)
    | (simp at hx)
theorem unparseFrom_length (l : List It) : ∀ out : List Int, out.length ≤ 64 → (unparseFrom out l).1.length ≤ 64 := by
  induction l with
  | nil => intro out h; exact h
  | cons it l ih =>
    intro out h
    rw [unparseFrom]
    split
    · simp
    · rename_i hn
      refine ih _ ?_
      rw [List.length_append]
      have := not_or.1 hn
      omega
theorem unparse_length (l : List It) : (unparse l).1.length ≤ 64 := unparseFrom_length l [] (by simp)
end Go.Proofs.YtfjmpdcflnaogaaDoor.Plain
