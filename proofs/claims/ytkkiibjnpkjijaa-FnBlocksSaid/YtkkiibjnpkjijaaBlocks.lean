/-
Blocks of a store behind a block that was put, as plain lists of numbers; no conditions beyond those written in each.
-/
import Derived.Test.YtkkiibjnpkjijaaPuts
namespace Go.Proofs.Ytkkiibjnpkjijaa.Plain
open Go.RowKit Go.Proofs.Ytkkiibjnpkjijaa.Tools

theorem putCells_get {l cs : List Int} {o : Nat} (h : cs.length ≤ 64) (ho : o + 64 ≤ l.length) (j : Nat) : (putCells l o cs)[j]? = if o ≤ j ∧ j < o + 64 then (fill cs)[j - o]? else l[j]? := by
  have hf := fill_length h
  unfold putCells
  rw [List.getElem?_append, List.getElem?_append, List.length_take, hf, Nat.min_eq_left (by omega)]
  by_cases h1 : j < o
  · rw [if_pos h1, if_neg (by omega), List.getElem?_take, if_pos h1]
  · rw [if_neg h1]
    by_cases h2 : j - o < 64
    · rw [if_pos h2, if_pos (by omega)]
    · rw [if_neg h2, if_neg (by omega), List.getElem?_drop]
      congr 1
      omega
theorem blockAt_get {l : List Int} {b : Int} (h0 : 0 ≤ b) (j : Nat) : (blockAt l b)[j]? = if j < 64 then l[b.toNat * 64 + j]? else none := by
  unfold blockAt
  rw [List.getElem?_drop, List.getElem?_take, show (b * 64).toNat = b.toNat * 64 by omega, show ((b + 1) * 64).toNat = b.toNat * 64 + 64 by omega]
  by_cases h : j < 64
  · rw [if_pos h, if_pos (by omega)]
  · rw [if_neg h, if_neg (by omega)]
theorem blockAt_put {l cs : List Int} {b : Int} (h : cs.length ≤ 64) (hb : hasBlock l b) : blockAt (putCells l (b * 64).toNat cs) b = fill cs := by
  have hr := hasBlock_room hb
  have hf := fill_length h
  refine List.ext_getElem? fun j => ?_
  rw [blockAt_get hr.1]
  by_cases hj : j < 64
  · rw [if_pos hj, putCells_get h (by omega), if_pos (by omega)]
    congr 1
    omega
  · rw [if_neg hj, List.getElem?_eq_none (by omega)]
theorem blockAt_other {l cs : List Int} {b i : Int} (h : cs.length ≤ 64) (hb : hasBlock l b) (hi : 0 ≤ i) (hne : i ≠ b) : blockAt (putCells l (b * 64).toNat cs) i = blockAt l i := by
  have hr := hasBlock_room hb
  refine List.ext_getElem? fun j => ?_
  rw [blockAt_get hi, blockAt_get hi]
  by_cases hj : j < 64
  · rw [if_pos hj, if_pos hj, putCells_get h (by omega), if_neg (by omega)]
  · rw [if_neg hj, if_neg hj]
theorem hasBlock_of_length {l m : List Int} {b : Int} (h : l.length = m.length) (hb : hasBlock l b) : hasBlock m b := by
  unfold hasBlock at *
  rw [← h]
  exact hb
theorem fill_whole {cs : List Int} (h : cs.length = 64) : fill cs = cs := by
  unfold fill; rw [h]; simp
end Go.Proofs.Ytkkiibjnpkjijaa.Plain
