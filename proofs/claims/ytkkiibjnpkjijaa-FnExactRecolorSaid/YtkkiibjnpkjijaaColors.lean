/-
An item with another kind, as plain values; no conditions beyond those written in each.
-/
import Derived.Test.YtkkiibjnpkjijaaItems
namespace Go.Proofs.Ytkkiibjnpkjijaa.Plain
open Go.RowKit Go.Proofs.Ytkkiibjnpkjijaa.Tools Go.Proofs.YtkkiibjnpkjijaaW.PrintWords

def recolor (it : It) (k : Int) : Int × ByteArray × Int × Bool × Int × Bool :=
  if 0 < (cellsOf it).length ∧ ((1 ≤ it.kind ∧ it.kind ≤ 6 ∧ 1 ≤ k ∧ k ≤ 6) ∨ (7 ≤ it.kind ∧ it.kind ≤ 8 ∧ 7 ≤ k ∧ k ≤ 8) ∨ it.kind = k) then (k, toB it.name, it.n, it.hex, it.raw, true) else (0, ⟨#[]⟩, 0, false, 0, false)
theorem tagOf_cases (k : Int) : (0 < tagOf k ∧ 1 ≤ k ∧ k ≤ 6) ∨ (tagOf k = 0 ∧ ¬ (1 ≤ k ∧ k ≤ 6)) := by
  unfold tagOf
  repeat' split
  all_goals omega
end Go.Proofs.Ytkkiibjnpkjijaa.Plain
