/-
The bytes of a store, read back; no conditions beyond those written in each.
-/
import Derived.Test.YtkkiibjnpkjijaaXors
import Derived.Test.YtkkiibjnpkjijaaDraws
namespace Go.Proofs.Ytkkiibjnpkjijaa.Plain
open Go.RowKit Go.Proofs.Ytkkiibjnpkjijaa.Tools Go.Proofs.YtkkiibjnpkjijaaW.PrintWords

theorem or_comm_u32 (a b : Int) : Go.bits .or .u32 a b = Go.bits .or .u32 b a := by
  unfold Go.bits
  simp only [BitVec.or_comm]
theorem bytesFrom_drop (l : List Int) : ∀ i : Nat, i ≤ l.length → (bytesFrom l).drop (4 * i) = bytesFrom (l.drop i) := by
  induction l with
  | nil => intro i hi; simp [bytesFrom]
  | cons c l ih =>
    intro i hi
    cases i with
    | zero => rfl
    | succ i =>
      rw [show 4 * (i + 1) = 4 * i + 1 + 1 + 1 + 1 by omega, bytesFrom, four]
      simp only [List.cons_append, List.nil_append, List.drop_succ_cons]
      exact ih i (by simpa using hi)
def low (a b c d : Int) : Int := a + b * 256 + c * 65536 + d * 16777216
theorem four_low {a b c d : Int} (ha : 0 ≤ a ∧ a ≤ 255) (hb : 0 ≤ b ∧ b ≤ 255) (hc : 0 ≤ c ∧ c ≤ 255) (hd : 0 ≤ d ∧ d ≤ 255) : four (low a b c d) = [a, b, c, d] := by
  unfold four low
  congr 1
  · omega
  congr 1
  · omega
  congr 1
  · omega
  congr 1
  omega
theorem low_range {a b c d : Int} (ha : 0 ≤ a ∧ a ≤ 255) (hb : 0 ≤ b ∧ b ≤ 255) (hc : 0 ≤ c ∧ c ≤ 255) (hd : 0 ≤ d ∧ d ≤ 255) : 0 ≤ low a b c d ∧ low a b c d ≤ 4294967295 := by
  unfold low; omega
theorem bytesFrom_byte (l : List Int) : ∀ x ∈ bytesFrom l, 0 ≤ x ∧ x ≤ 255 := by
  induction l with
  | nil => intro x hx; simp [bytesFrom] at hx
  | cons c l ih =>
    intro x hx
    rw [bytesFrom, List.mem_append] at hx
    rcases hx with hx | hx
    · simp only [four, List.mem_cons, List.not_mem_nil, or_false] at hx
      omega
    · exact ih x hx
/-- A byte turned in the bytes of cells is one cell turned. -/
theorem bytesFrom_set (l : List Int) : ∀ (j : Nat) (v : Int) (hj : j < (bytesFrom l).length), (∀ x ∈ l, 0 ≤ x ∧ x ≤ 4294967295) → 0 ≤ v ∧ v ≤ 255 → v ≠ (bytesFrom l)[j] →
    ∃ (q : Nat) (u : Int) (hq : q < l.length), (0 ≤ u ∧ u ≤ 4294967295) ∧ u ≠ l[q] ∧ (bytesFrom l).set j v = bytesFrom (l.set q u) := by
  induction l with
  | nil => intro j v hj; simp [bytesFrom] at hj
  | cons c l ih =>
    intro j v hj hl hv hne
    have hc := hl c List.mem_cons_self
    have h4 : four c = [c % 256, c / 256 % 256, c / 65536 % 256, c / 16777216 % 256] := rfl
    by_cases hlt : j < 4
    · have key : ∀ (a b e d : Int), (0 ≤ a ∧ a ≤ 255) → (0 ≤ b ∧ b ≤ 255) → (0 ≤ e ∧ e ≤ 255) → (0 ≤ d ∧ d ≤ 255) → low a b e d ≠ c → (bytesFrom (c :: l)).set j v = [a, b, e, d] ++ bytesFrom l →
          ∃ (q : Nat) (u : Int) (hq : q < (c :: l).length), (0 ≤ u ∧ u ≤ 4294967295) ∧ u ≠ (c :: l)[q] ∧ (bytesFrom (c :: l)).set j v = bytesFrom ((c :: l).set q u) := by
        intro a b e d ha hb he hd hn hs
        refine ⟨0, low a b e d, by simp, low_range ha hb he hd, hn, ?_⟩
        rw [hs, List.set_cons_zero, bytesFrom, four_low ha hb he hd]
      simp only [bytesFrom, h4, List.cons_append, List.nil_append] at hne
      rcases j with _ | _ | _ | _ | j
      · exact key v (c / 256 % 256) (c / 65536 % 256) (c / 16777216 % 256) hv (by omega) (by omega) (by omega) (by intro e; apply hne; unfold low at e; simp only [List.getElem_cons_zero]; omega) (by simp [bytesFrom, h4])
      · exact key (c % 256) v (c / 65536 % 256) (c / 16777216 % 256) (by omega) hv (by omega) (by omega) (by intro e; apply hne; unfold low at e; simp only [List.getElem_cons_zero, List.getElem_cons_succ]; omega) (by simp [bytesFrom, h4])
      · exact key (c % 256) (c / 256 % 256) v (c / 16777216 % 256) (by omega) (by omega) hv (by omega) (by intro e; apply hne; unfold low at e; simp only [List.getElem_cons_zero, List.getElem_cons_succ]; omega) (by simp [bytesFrom, h4])
      · exact key (c % 256) (c / 256 % 256) (c / 65536 % 256) v (by omega) (by omega) (by omega) hv (by intro e; apply hne; unfold low at e; simp only [List.getElem_cons_zero, List.getElem_cons_succ]; omega) (by simp [bytesFrom, h4])
      · omega
    · obtain ⟨i, rfl⟩ : ∃ i, j = i + 4 := ⟨j - 4, by omega⟩
      simp only [bytesFrom, h4, List.cons_append, List.nil_append, List.getElem_cons_succ, List.length_cons] at hne hj
      obtain ⟨q, u, hq, hu, hn, hs⟩ := ih i v (by omega) (fun x hx => hl x (List.mem_cons_of_mem _ hx)) hv hne
      refine ⟨q + 1, u, by simpa using hq, hu, by simpa using hn, ?_⟩
      rw [List.set_cons_succ, bytesFrom, bytesFrom, ← hs, h4]
      simp
end Go.Proofs.Ytkkiibjnpkjijaa.Plain
