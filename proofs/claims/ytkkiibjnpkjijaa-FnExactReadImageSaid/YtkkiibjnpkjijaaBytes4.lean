/-
Every list of bytes of the right length is the bytes of some cells; no conditions beyond those written in each.
-/
import Derived.Test.YtkkiibjnpkjijaaImages
namespace Go.Proofs.Ytkkiibjnpkjijaa.Plain
open Go.RowKit Go.Proofs.Ytkkiibjnpkjijaa.Tools Go.Proofs.YtkkiibjnpkjijaaW.PrintWords

theorem cells_of_bytes (n : Nat) : ∀ l : List Int, l.length = 4 * n → (∀ x ∈ l, 0 ≤ x ∧ x ≤ 255) → ∃ cs : List Int, cs.length = n ∧ (∀ c ∈ cs, 0 ≤ c ∧ c ≤ 4294967295) ∧ l = bytesFrom cs := by
  induction n with
  | zero => intro l hl hx; exact ⟨[], rfl, by simp, by rw [bytesFrom]; exact List.eq_nil_of_length_eq_zero (by omega)⟩
  | succ n ih =>
    intro l hl hx
    match l, hl, hx with
    | a :: b :: c :: d :: r, hl, hx =>
      obtain ⟨cs, h1, h2, h3⟩ := ih r (by simp only [List.length_cons] at hl; omega) (fun x h => hx x (by simp [h]))
      have ha := hx a (by simp)
      have hb := hx b (by simp)
      have hc := hx c (by simp)
      have hd := hx d (by simp)
      refine ⟨low a b c d :: cs, by simp [h1], ?_, ?_⟩
      · intro x h
        rcases List.mem_cons.1 h with rfl | h
        · exact low_range ha hb hc hd
        · exact h2 x h
      · rw [bytesFrom, four_low ha hb hc hd, ← h3]; rfl
theorem rd_drop (l : List Int) (i j : Nat) : rd l ((i + j : Nat) : Int) = rd (l.drop i) (j : Int) := by
  unfold rd
  rw [Int.toNat_natCast, Int.toNat_natCast, List.getD_eq_getElem?_getD, List.getD_eq_getElem?_getD, List.getElem?_drop]
theorem split_last (n : Nat) (l : List Int) (h : l.length = n + 1) : ∃ (cs : List Int) (s : Int), l = cs ++ [s] ∧ cs.length = n := by
  have hne : l ≠ [] := by intro e; rw [e] at h; simp at h
  exact ⟨l.dropLast, l.getLast hne, (List.dropLast_concat_getLast hne).symm, by simp [h]⟩
end Go.Proofs.Ytkkiibjnpkjijaa.Plain
