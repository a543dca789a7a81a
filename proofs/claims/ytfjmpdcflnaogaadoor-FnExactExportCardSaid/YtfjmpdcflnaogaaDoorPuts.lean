/-
A block put into a store, as plain lists of numbers; no conditions beyond those written in each.
-/
import Derived.Laws.CopyOwn
import Derived.Test.YtfjmpdcflnaogaaDoorStores
namespace Go.Proofs.YtfjmpdcflnaogaaDoor.Plain
open Go.RowKit Go.Proofs.YtfjmpdcflnaogaaDoor.Tools

/-- 64 cells: those given, and noughts behind them. -/
def fill (cs : List Int) : List Int := cs ++ List.replicate (64 - cs.length) 0
def putCells (l : List Int) (o : Nat) (cs : List Int) : List Int := l.take o ++ (fill cs ++ l.drop (o + 64))
def putBlock (l : List Int) (b : Int) (cs : List Int) : List Int × Bool := if hasBlock l b ∧ cs.length ≤ 64 then (putCells l (b * 64).toNat cs, true) else ([], false)
theorem fill_length {cs : List Int} (h : cs.length ≤ 64) : (fill cs).length = 64 := by
  unfold fill; rw [List.length_append, List.length_replicate]; omega
theorem putCells_length {l cs : List Int} {o : Nat} (h : cs.length ≤ 64) (ho : o + 64 ≤ l.length) : (putCells l o cs).length = l.length := by
  unfold putCells
  rw [List.length_append, List.length_append, List.length_take, List.length_drop, fill_length h]
  omega
theorem hasBlock_room {l : List Int} {b : Int} (h : hasBlock l b) : 0 ≤ b ∧ (b + 1) * 64 ≤ (l.length : Int) ∧ l.length ≤ 768 := by
  obtain ⟨⟨h1, h2⟩, h3, h4⟩ := h
  omega
theorem putBlock_length {l : List Int} {b : Int} {cs : List Int} (hl : l.length ≤ 1048576) : (putBlock l b cs).1.length ≤ 1048576 := by
  unfold putBlock
  split
  · rename_i h
    have := hasBlock_room h.1
    rw [putCells_length h.2 (by omega)]
    exact hl
  · simp
theorem put_splice {l cs : List Int} {o : Nat} (h : cs.length ≤ 64) (ho : o + 64 ≤ l.length) : splice (splice l o (List.replicate 64 0)) o cs = putCells l o cs := by
  unfold splice putCells fill
  have h1 : (l.take o).length = o := by rw [List.length_take]; omega
  rw [List.length_replicate, List.take_left' h1, ← List.drop_drop, List.drop_left' h1, List.drop_append_of_le_length (by rw [List.length_replicate]; exact h), List.drop_replicate, List.append_assoc]
theorem mid_set {l v : List Int} {o i : Nat} (y : Int) (hi : i < 64) (hv : v.length = 64) (ho : o + 64 ≤ l.length) : (l.take o ++ (v.take i ++ l.drop (o + i))).set (o + i) y = l.take o ++ ((v.take i ++ [y]) ++ l.drop (o + (i + 1))) := by
  have h1 : (l.take o ++ v.take i).length = o + i := by rw [List.length_append, List.length_take, List.length_take]; omega
  rw [← List.append_assoc, List.drop_eq_getElem_cons (by omega : o + i < l.length), List.set_append_right _ _ (by omega), h1, Nat.sub_self, List.set_cons_zero, show o + (i + 1) = o + i + 1 by omega]
  simp
theorem fill_at {cs : List Int} {i : Nat} (h : cs.length ≤ 64) (hi : i < 64) : (fill cs)[i]'(by rw [fill_length h]; exact hi) = if hc : i < cs.length then cs[i] else 0 := by
  unfold fill
  split
  · rename_i hc; rw [List.getElem_append_left hc]
  · rename_i hc; rw [List.getElem_append_right (by omega)]; simp
def copyBlock (l : List Int) (a b : Int) : List Int × Bool := if hasBlock l a then putBlock l b (blockAt l a) else ([], false)
theorem copyBlock_length {l : List Int} {a b : Int} (hl : l.length ≤ 1048576) : (copyBlock l a b).1.length ≤ 1048576 := by
  unfold copyBlock
  split
  · exact putBlock_length hl
  · simp
end Go.Proofs.YtfjmpdcflnaogaaDoor.Plain
