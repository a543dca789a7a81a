/-
Words and lines of a text put together again, as plain lists of bytes; no conditions beyond those written in each.
-/
import Derived.Test.YtamdgigcngeanaaDoorSpots
import Derived.Test.YtamdgigcngeanaaDoorLines
import Derived.Test.YtamdgigcngeanaaDoorNames
namespace Go.Proofs.YtamdgigcngeanaaDoor.Plain
open Go.RowKit Go.Proofs.YtamdgigcngeanaaDoor.Tools Go.Proofs.YtamdgigcngeanaaDoorW.PrintWords

/-- A word: not empty, no blank in it. -/
def wordOk (w : List UInt8) : Prop := w ≠ [] ∧ ∀ b ∈ w, blankB b = false
theorem spotsC_ok (l : List UInt8) : ∀ c i, (∀ x, c = some x → wordOk x.1) → ∀ w ∈ spotsC l c i, wordOk w.1 := by
  induction l with
  | nil =>
    intro c i h w hw
    cases c with
    | none => simp [spotsC] at hw
    | some c =>
      simp only [spotsC, List.mem_singleton] at hw
      subst hw
      exact h w rfl
  | cons b l ih =>
    intro c i h w hw
    cases hb : blankB b with
    | true =>
      cases c with
      | none =>
        rw [spotsC, if_pos hb] at hw
        exact ih none _ (fun _ e => by cases e) w hw
      | some c =>
        rw [spotsC, if_pos hb, List.mem_cons] at hw
        rcases hw with rfl | hw
        · exact h w rfl
        · exact ih none _ (fun _ e => by cases e) w hw
    | false =>
      cases c with
      | none =>
        rw [spotsC, if_neg (by rw [hb]; simp)] at hw
        refine ih _ _ ?_ w hw
        rintro x e
        cases e
        refine ⟨by simp, ?_⟩
        intro b' hb'
        rw [List.mem_singleton] at hb'
        rw [hb']; exact hb
      | some c =>
        rw [spotsC, if_neg (by rw [hb]; simp)] at hw
        refine ih _ _ ?_ w hw
        rintro x e
        cases e
        refine ⟨by simp, ?_⟩
        intro b' hb'
        rw [List.mem_append, List.mem_singleton] at hb'
        rcases hb' with hb' | hb'
        · exact (h c rfl).2 b' hb'
        · rw [hb']; exact hb
/-- Words, each with a space behind it. -/
def joinSp (ws : List (List UInt8)) : List UInt8 := ws.flatMap (· ++ [32])
theorem spotsC_len (l : List UInt8) : ∀ c i, (joinSp ((spotsC l c i).map (·.1))).length ≤ 2 * l.length + (match c with | none => 0 | some x => x.1.length + 1) := by
  induction l with
  | nil => intro c i; cases c <;> simp [spotsC, joinSp]
  | cons b l ih =>
    intro c i
    cases hb : blankB b with
    | true =>
      cases c with
      | none =>
        have := ih none (i + 1)
        rw [spotsC, if_pos hb]
        simp only [List.length_cons] at this ⊢
        omega
      | some c =>
        have := ih none (i + 1)
        rw [spotsC, if_pos hb, List.map_cons, joinSp, List.flatMap_cons, List.length_append, List.length_append]
        simp only [joinSp, List.length_cons, List.length_nil] at this ⊢
        omega
    | false =>
      cases c with
      | none =>
        have := ih (some ([b], i)) (i + 1)
        rw [spotsC, if_neg (by rw [hb]; simp)]
        simp only [List.length_cons, List.length_nil] at this ⊢
        omega
      | some c =>
        have := ih (some (c.1 ++ [b], c.2)) (i + 1)
        rw [spotsC, if_neg (by rw [hb]; simp)]
        simp only [List.length_cons, List.length_nil, List.length_append] at this ⊢
        omega
theorem spotsC_word (w : List UInt8) (hw : ∀ b ∈ w, blankB b = false) : ∀ (c : List UInt8) (a i : Nat) (l : List UInt8), spotsC (w ++ 32 :: l) (some (c, a)) i = (c ++ w, a) :: spotsC l none (i + w.length + 1) := by
  induction w with
  | nil =>
    intro c a i l
    rw [List.nil_append, spotsC, if_pos (by decide), List.append_nil]; rfl
  | cons b w ih =>
    intro c a i l
    rw [List.cons_append, spotsC, if_neg (by rw [hw b (by simp)]; simp), ih (fun b' h => hw b' (by simp [h])), List.append_assoc, List.singleton_append, List.length_cons, show i + 1 + w.length + 1 = i + (w.length + 1) + 1 by omega]
theorem words_join (ws : List (List UInt8)) (h : ∀ w ∈ ws, wordOk w) : ∀ i, (spotsC (joinSp ws) none i).map (·.1) = ws := by
  induction ws with
  | nil => intro i; rfl
  | cons w ws ih =>
    intro i
    obtain ⟨h1, h2⟩ := h w (by simp)
    obtain ⟨b, w, rfl⟩ := List.exists_cons_of_ne_nil h1
    rw [joinSp, List.flatMap_cons, List.append_assoc, List.singleton_append, List.cons_append, spotsC, if_neg (by rw [h2 b (by simp)]; simp), spotsC_word w (fun b' hb' => h2 b' (by simp [hb'])), List.map_cons]
    rw [show (ws.flatMap (· ++ [32])) = joinSp ws from rfl, ih (fun w' hw' => h w' (by simp [hw']))]
    rfl
/-- Lines, each with its end. -/
def joinNl (ls : List (List UInt8)) : List UInt8 := ls.flatMap (· ++ [10])
theorem lines_join (l : List UInt8) : ∀ cur, joinNl (linesFrom cur l) = cur ++ l ∨ (joinNl (linesFrom cur l) = cur ++ l ++ [10] ∧ cur ++ l ≠ []) := by
  induction l with
  | nil =>
    intro cur
    rw [linesFrom]
    by_cases h : cur = []
    · left; rw [if_pos h, h]; rfl
    · right
      rw [if_neg h, List.append_nil]
      exact ⟨by simp [joinNl], h⟩
  | cons b l ih =>
    intro cur
    rw [linesFrom]
    by_cases hb : b = 10
    · subst hb
      rw [if_pos rfl]
      rcases ih [] with e | ⟨e, _⟩
      · left
        rw [joinNl, List.flatMap_cons, show (linesFrom [] l).flatMap (· ++ [10]) = joinNl (linesFrom [] l) from rfl, e]; simp
      · right
        rw [joinNl, List.flatMap_cons, show (linesFrom [] l).flatMap (· ++ [10]) = joinNl (linesFrom [] l) from rfl, e]; simp
    · rw [if_neg hb]
      rcases ih (cur ++ [b]) with e | ⟨e, h⟩
      · left; rw [e]; simp
      · right; rw [e]; simp
theorem joinNl_length (ls : List (List UInt8)) (l : List UInt8) (h : joinNl ls = l ∨ (joinNl ls = l ++ [10] ∧ l ≠ [])) : (joinNl ls).length ≤ l.length + 1 := by
  rcases h with e | ⟨e, _⟩
  · rw [e]; omega
  · rw [e, List.length_append]; exact Nat.le_refl _
end Go.Proofs.YtamdgigcngeanaaDoor.Plain
