/-
  No cell of these rows narrows 'for every input' (looked for: loops, veiled, ifaces, maps, wideKeys, modest, calm, conditions, laid).
  DERIVED. THE GIVEN ROWS OF THIS SEAT. 5 by the template 'for every input the law returns true; each argument reads behind the call as it read before'; 0 by the template 'total and deterministic' (their statements: YtbiaklednoagpaaTotals.lean).
  GIVEN WITH THE SEED: the statements are not yours to turn. If you find one false, say at which input.
  Laid BY PROGRAM, IN A SANDBOX (cutbox-rows.mjs): the forced cells as the released guide's own fill.sh prints them over the translation 9f926288b71b6a1e… (all of the seat's roots in one cut). By AI agents, Wed Nov 11 2026. No macro, syntax, notation, axiom, sorry.
-/
import Derived.Test.YtbiaklednoagpaaChecked
import GoSem.Claim
import GoSem.ClaimJoined
import GoSem.ClaimMapViews
import Derived.JoinedTies
import Derived.KernelRfl
namespace Go.Proofs.Ytbiaklednoagpaa
/- THE CELL 'sum', in the pinned program and in every row, IS THE sha256 OF THE DUMP (.gsa) THAT YtbiaklednoagpaaProg.lean LOADS. Nothing in Lean hashes anything: it is a label: what it is worth is what the hold of that sum in a sandbox is worth. -/
noncomputable def Try.pinned : Pinned := { name := "ytbiaklednoagpaa", sum := "9f926288b71b6a1e56c1761a64820043fe1a10393ebae7650930fb7b50d7878c", checked := Try.checked }
namespace Rows
def none {H : Type} : Left H := { results := [], args := [] }

/-- 'laws.FnExactUnparse': WHATEVER THE INPUT: true; the input reads as it did. -/
def fnExactUnparseSpec : ChangeSpec := { name := "fnExactUnparse", fn := fun _ => fun
  | [d] => { results := [.lit (.bool true)], args := [d] }
  | _ => none }
def fnExactUnparseRow : OpenClaim := { program := "ytbiaklednoagpaa", sum := "9f926288b71b6a1e56c1761a64820043fe1a10393ebae7650930fb7b50d7878c", func := "loop.example/g00711/laws.FnExactUnparse", spec := "fnExactUnparse", inPlace := ["internal/bytealg.IndexByteString"], apart := false }
def FnExactUnparseSaid : Prop := fnExactUnparseRow.holds Try.pinned (OpenSpec.ofChange fnExactUnparseSpec)

/-- ITS FALSE NEIGHBOUR: 'it returns false'. Refute it at one input. -/
def fnExactUnparseWrong : ChangeSpec := { name := "fnExactUnparse", fn := fun _ => fun
  | [d] => { results := [.lit (.bool false)], args := [d] }
  | _ => none }
def FnExactUnparseWrongFalsely : Prop := fnExactUnparseRow.holds Try.pinned (OpenSpec.ofChange fnExactUnparseWrong)

/-- 'laws.FnExactPutItems': WHATEVER THE INPUT: true; the input reads as it did. -/
def fnExactPutItemsSpec : ChangeSpec := { name := "fnExactPutItems", fn := fun _ => fun
  | [d1, d2, d3] => { results := [.lit (.bool true)], args := [d1, d2, d3] }
  | _ => none }
def fnExactPutItemsRow : OpenClaim := { program := "ytbiaklednoagpaa", sum := "9f926288b71b6a1e56c1761a64820043fe1a10393ebae7650930fb7b50d7878c", func := "loop.example/g00711/laws.FnExactPutItems", spec := "fnExactPutItems", inPlace := ["internal/bytealg.IndexByteString"], unfollowed := true, recurses := true, apart := false }
def FnExactPutItemsSaid : Prop := fnExactPutItemsRow.holds Try.pinned (OpenSpec.ofChange fnExactPutItemsSpec)

/-- ITS FALSE NEIGHBOUR: 'it returns false'. Refute it at one input. -/
def fnExactPutItemsWrong : ChangeSpec := { name := "fnExactPutItems", fn := fun _ => fun
  | [d1, d2, d3] => { results := [.lit (.bool false)], args := [d1, d2, d3] }
  | _ => none }
def FnExactPutItemsWrongFalsely : Prop := fnExactPutItemsRow.holds Try.pinned (OpenSpec.ofChange fnExactPutItemsWrong)

/-- 'laws.FnExactParseCells': WHATEVER THE INPUT: true; the input reads as it did. -/
def fnExactParseCellsSpec : ChangeSpec := { name := "fnExactParseCells", fn := fun _ => fun
  | [d] => { results := [.lit (.bool true)], args := [d] }
  | _ => none }
def fnExactParseCellsRow : OpenClaim := { program := "ytbiaklednoagpaa", sum := "9f926288b71b6a1e56c1761a64820043fe1a10393ebae7650930fb7b50d7878c", func := "loop.example/g00711/laws.FnExactParseCells", spec := "fnExactParseCells", inPlace := ["internal/bytealg.IndexByteString"], apart := false }
def FnExactParseCellsSaid : Prop := fnExactParseCellsRow.holds Try.pinned (OpenSpec.ofChange fnExactParseCellsSpec)

/-- ITS FALSE NEIGHBOUR: 'it returns false'. Refute it at one input. -/
def fnExactParseCellsWrong : ChangeSpec := { name := "fnExactParseCells", fn := fun _ => fun
  | [d] => { results := [.lit (.bool false)], args := [d] }
  | _ => none }
def FnExactParseCellsWrongFalsely : Prop := fnExactParseCellsRow.holds Try.pinned (OpenSpec.ofChange fnExactParseCellsWrong)

/-- 'laws.FnExactListOk': WHATEVER THE INPUT: true; the input reads as it did. -/
def fnExactListOkSpec : ChangeSpec := { name := "fnExactListOk", fn := fun _ => fun
  | [d] => { results := [.lit (.bool true)], args := [d] }
  | _ => none }
def fnExactListOkRow : OpenClaim := { program := "ytbiaklednoagpaa", sum := "9f926288b71b6a1e56c1761a64820043fe1a10393ebae7650930fb7b50d7878c", func := "loop.example/g00711/laws.FnExactListOk", spec := "fnExactListOk", inPlace := ["internal/bytealg.IndexByteString"], apart := false }
def FnExactListOkSaid : Prop := fnExactListOkRow.holds Try.pinned (OpenSpec.ofChange fnExactListOkSpec)

/-- ITS FALSE NEIGHBOUR: 'it returns false'. Refute it at one input. -/
def fnExactListOkWrong : ChangeSpec := { name := "fnExactListOk", fn := fun _ => fun
  | [d] => { results := [.lit (.bool false)], args := [d] }
  | _ => none }
def FnExactListOkWrongFalsely : Prop := fnExactListOkRow.holds Try.pinned (OpenSpec.ofChange fnExactListOkWrong)

/-- 'laws.FnExactItemsOf': WHATEVER THE INPUT: true; the input reads as it did. -/
def fnExactItemsOfSpec : ChangeSpec := { name := "fnExactItemsOf", fn := fun _ => fun
  | [d1, d2] => { results := [.lit (.bool true)], args := [d1, d2] }
  | _ => none }
def fnExactItemsOfRow : OpenClaim := { program := "ytbiaklednoagpaa", sum := "9f926288b71b6a1e56c1761a64820043fe1a10393ebae7650930fb7b50d7878c", func := "loop.example/g00711/laws.FnExactItemsOf", spec := "fnExactItemsOf", inPlace := ["internal/bytealg.IndexByteString"], unfollowed := true, recurses := true, apart := false }
def FnExactItemsOfSaid : Prop := fnExactItemsOfRow.holds Try.pinned (OpenSpec.ofChange fnExactItemsOfSpec)

/-- ITS FALSE NEIGHBOUR: 'it returns false'. Refute it at one input. -/
def fnExactItemsOfWrong : ChangeSpec := { name := "fnExactItemsOf", fn := fun _ => fun
  | [d1, d2] => { results := [.lit (.bool false)], args := [d1, d2] }
  | _ => none }
def FnExactItemsOfWrongFalsely : Prop := fnExactItemsOfRow.holds Try.pinned (OpenSpec.ofChange fnExactItemsOfWrong)

/- THE SECOND FORM. 'bulk': how many values and letters a reading holds, each counted each time it is reached (what is shared counts as often as it is met; a slice's spare places count too). A statement '..UptoSaid' is the law's where the arguments, and the package variables that the reading takes, are together of bulk at most 1048576: NARROWER than '..Said'. Prove '..Said' where nothing that the law and all that it calls make is longer than what came in: it says more and counts as full. Else prove '..UptoSaid'. A law counts once. -/
mutual
def uptoBulk {H : Type} : DataW H → Nat
  | .lit (.string bytes) => bytes.length + 1
  | .lit _ => 1
  | .nil => 1
  | .ptr d => uptoBulk d + 1
  | .slice elems spare => uptoBulkAll elems + uptoBulkAll spare + 1
  | .agg parts => uptoBulkAll parts + 1
  | .iface _ d => uptoBulk d + 1
  | .map entries => uptoBulkEntries entries + 1
  | .held _ => 1
def uptoBulkAll {H : Type} : List (DataW H) → Nat
  | [] => 0
  | d :: r => uptoBulk d + uptoBulkAll r
def uptoBulkEntries {H : Type} : List (Lit × DataW H) → Nat
  | [] => 0
  | x :: r => uptoBulkEntry x + uptoBulkEntries r
def uptoBulkEntry {H : Type} : Lit × DataW H → Nat
  | (.string bytes, d) => bytes.length + uptoBulk d + 1
  | (_, d) => uptoBulk d + 1
 end
def uptoSmall : (H : Type) → List (DataW H) → Bool := fun _ ds => decide (uptoBulkAll ds ≤ 1048576)
def OpenSpec.upto (s : _root_.Go.ChangeSpec) : _root_.Go.OpenSpec := { _root_.Go.OpenSpec.ofChange s with cond := some uptoSmall }

/-- 'laws.FnExactUnparse', WHERE WHAT IT READS IS OF BULK AT MOST 1048576: true; the input reads as it did. -/
def fnExactUnparseUptoRow : OpenClaim := { program := "ytbiaklednoagpaa", sum := "9f926288b71b6a1e56c1761a64820043fe1a10393ebae7650930fb7b50d7878c", func := "loop.example/g00711/laws.FnExactUnparse", spec := "fnExactUnparse", inPlace := ["internal/bytealg.IndexByteString"], apart := false, narrowed := true }
def FnExactUnparseUptoSaid : Prop := fnExactUnparseUptoRow.holds Try.pinned (OpenSpec.upto fnExactUnparseSpec)

/-- 'laws.FnExactPutItems', WHERE WHAT IT READS IS OF BULK AT MOST 1048576: true; the input reads as it did. -/
def fnExactPutItemsUptoRow : OpenClaim := { program := "ytbiaklednoagpaa", sum := "9f926288b71b6a1e56c1761a64820043fe1a10393ebae7650930fb7b50d7878c", func := "loop.example/g00711/laws.FnExactPutItems", spec := "fnExactPutItems", inPlace := ["internal/bytealg.IndexByteString"], unfollowed := true, recurses := true, apart := false, narrowed := true }
def FnExactPutItemsUptoSaid : Prop := fnExactPutItemsUptoRow.holds Try.pinned (OpenSpec.upto fnExactPutItemsSpec)

/-- 'laws.FnExactParseCells', WHERE WHAT IT READS IS OF BULK AT MOST 1048576: true; the input reads as it did. -/
def fnExactParseCellsUptoRow : OpenClaim := { program := "ytbiaklednoagpaa", sum := "9f926288b71b6a1e56c1761a64820043fe1a10393ebae7650930fb7b50d7878c", func := "loop.example/g00711/laws.FnExactParseCells", spec := "fnExactParseCells", inPlace := ["internal/bytealg.IndexByteString"], apart := false, narrowed := true }
def FnExactParseCellsUptoSaid : Prop := fnExactParseCellsUptoRow.holds Try.pinned (OpenSpec.upto fnExactParseCellsSpec)

/-- 'laws.FnExactListOk', WHERE WHAT IT READS IS OF BULK AT MOST 1048576: true; the input reads as it did. -/
def fnExactListOkUptoRow : OpenClaim := { program := "ytbiaklednoagpaa", sum := "9f926288b71b6a1e56c1761a64820043fe1a10393ebae7650930fb7b50d7878c", func := "loop.example/g00711/laws.FnExactListOk", spec := "fnExactListOk", inPlace := ["internal/bytealg.IndexByteString"], apart := false, narrowed := true }
def FnExactListOkUptoSaid : Prop := fnExactListOkUptoRow.holds Try.pinned (OpenSpec.upto fnExactListOkSpec)

/-- 'laws.FnExactItemsOf', WHERE WHAT IT READS IS OF BULK AT MOST 1048576: true; the input reads as it did. -/
def fnExactItemsOfUptoRow : OpenClaim := { program := "ytbiaklednoagpaa", sum := "9f926288b71b6a1e56c1761a64820043fe1a10393ebae7650930fb7b50d7878c", func := "loop.example/g00711/laws.FnExactItemsOf", spec := "fnExactItemsOf", inPlace := ["internal/bytealg.IndexByteString"], unfollowed := true, recurses := true, apart := false, narrowed := true }
def FnExactItemsOfUptoSaid : Prop := fnExactItemsOfUptoRow.holds Try.pinned (OpenSpec.upto fnExactItemsOfSpec)

end Rows
end Go.Proofs.Ytbiaklednoagpaa
