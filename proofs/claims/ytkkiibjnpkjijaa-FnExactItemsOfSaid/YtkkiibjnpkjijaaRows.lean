/-
  No cell of these rows narrows 'for every input' (looked for: loops, veiled, ifaces, maps, wideKeys, modest, calm, conditions, laid).
  DERIVED. THE GIVEN ROWS OF THIS SEAT. 10 by the template 'for every input the law returns true; each argument reads behind the call as it read before'; 0 by the template 'total and deterministic' (their statements: YtkkiibjnpkjijaaTotals.lean).
  GIVEN WITH THE SEED: the statements are not yours to turn. If you find one false, say at which input.
  Laid BY PROGRAM, IN A SANDBOX (cutbox-rows.mjs): the forced cells as the released guide's own fill.sh prints them over the translation 3a75a5bcb1d35197… (all of the seat's roots in one cut). By AI agents, Wed Nov 11 2026. No macro, syntax, notation, axiom, sorry.
-/
import Derived.Test.YtkkiibjnpkjijaaChecked
import GoSem.Claim
import GoSem.ClaimJoined
import GoSem.ClaimMapViews
import Derived.JoinedTies
import Derived.KernelRfl
namespace Go.Proofs.Ytkkiibjnpkjijaa
/- THE CELL 'sum', in the pinned program and in every row, IS THE sha256 OF THE DUMP (.gsa) THAT YtkkiibjnpkjijaaProg.lean LOADS. Nothing in Lean hashes anything: it is a label: what it is worth is what the hold of that sum in a sandbox is worth. -/
noncomputable def Try.pinned : Pinned := { name := "ytkkiibjnpkjijaa", sum := "3a75a5bcb1d35197ed6d2eb054ff0a869b2204012fa64b9d9c1966f349ebb20b", checked := Try.checked }
namespace Rows
def none {H : Type} : Left H := { results := [], args := [] }

/-- 'laws.FnCells': WHATEVER THE INPUT: true; the input reads as it did. -/
def fnCellsSpec : ChangeSpec := { name := "fnCells", fn := fun _ => fun
  | [d] => { results := [.lit (.bool true)], args := [d] }
  | _ => none }
def fnCellsRow : OpenClaim := { program := "ytkkiibjnpkjijaa", sum := "3a75a5bcb1d35197ed6d2eb054ff0a869b2204012fa64b9d9c1966f349ebb20b", func := "loop.example/g00711/laws.FnCells", spec := "fnCells", inPlace := ["internal/bytealg.IndexByteString"], apart := false }
def FnCellsSaid : Prop := fnCellsRow.holds Try.pinned (OpenSpec.ofChange fnCellsSpec)

/-- ITS FALSE NEIGHBOUR: 'it returns false'. Refute it at one input. -/
def fnCellsWrong : ChangeSpec := { name := "fnCells", fn := fun _ => fun
  | [d] => { results := [.lit (.bool false)], args := [d] }
  | _ => none }
def FnCellsWrongFalsely : Prop := fnCellsRow.holds Try.pinned (OpenSpec.ofChange fnCellsWrong)

/-- 'laws.FnExactReadImage': WHATEVER THE INPUT: true; the input reads as it did. -/
def fnExactReadImageSpec : ChangeSpec := { name := "fnExactReadImage", fn := fun _ => fun
  | [d] => { results := [.lit (.bool true)], args := [d] }
  | _ => none }
def fnExactReadImageRow : OpenClaim := { program := "ytkkiibjnpkjijaa", sum := "3a75a5bcb1d35197ed6d2eb054ff0a869b2204012fa64b9d9c1966f349ebb20b", func := "loop.example/g00711/laws.FnExactReadImage", spec := "fnExactReadImage", apart := false }
def FnExactReadImageSaid : Prop := fnExactReadImageRow.holds Try.pinned (OpenSpec.ofChange fnExactReadImageSpec)

/-- ITS FALSE NEIGHBOUR: 'it returns false'. Refute it at one input. -/
def fnExactReadImageWrong : ChangeSpec := { name := "fnExactReadImage", fn := fun _ => fun
  | [d] => { results := [.lit (.bool false)], args := [d] }
  | _ => none }
def FnExactReadImageWrongFalsely : Prop := fnExactReadImageRow.holds Try.pinned (OpenSpec.ofChange fnExactReadImageWrong)

/-- 'laws.FnExactCopyBlock': WHATEVER THE INPUT: true; the input reads as it did. -/
def fnExactCopyBlockSpec : ChangeSpec := { name := "fnExactCopyBlock", fn := fun _ => fun
  | [d1, d2, d3] => { results := [.lit (.bool true)], args := [d1, d2, d3] }
  | _ => none }
def fnExactCopyBlockRow : OpenClaim := { program := "ytkkiibjnpkjijaa", sum := "3a75a5bcb1d35197ed6d2eb054ff0a869b2204012fa64b9d9c1966f349ebb20b", func := "loop.example/g00711/laws.FnExactCopyBlock", spec := "fnExactCopyBlock", unfollowed := true, recurses := true, apart := false }
def FnExactCopyBlockSaid : Prop := fnExactCopyBlockRow.holds Try.pinned (OpenSpec.ofChange fnExactCopyBlockSpec)

/-- ITS FALSE NEIGHBOUR: 'it returns false'. Refute it at one input. -/
def fnExactCopyBlockWrong : ChangeSpec := { name := "fnExactCopyBlock", fn := fun _ => fun
  | [d1, d2, d3] => { results := [.lit (.bool false)], args := [d1, d2, d3] }
  | _ => none }
def FnExactCopyBlockWrongFalsely : Prop := fnExactCopyBlockRow.holds Try.pinned (OpenSpec.ofChange fnExactCopyBlockWrong)

/-- 'laws.FnExactRecolor': WHATEVER THE INPUT: true; the input reads as it did. -/
def fnExactRecolorSpec : ChangeSpec := { name := "fnExactRecolor", fn := fun _ => fun
  | [d1, d2] => { results := [.lit (.bool true)], args := [d1, d2] }
  | _ => none }
def fnExactRecolorRow : OpenClaim := { program := "ytkkiibjnpkjijaa", sum := "3a75a5bcb1d35197ed6d2eb054ff0a869b2204012fa64b9d9c1966f349ebb20b", func := "loop.example/g00711/laws.FnExactRecolor", spec := "fnExactRecolor", inPlace := ["internal/bytealg.IndexByteString"], apart := false }
def FnExactRecolorSaid : Prop := fnExactRecolorRow.holds Try.pinned (OpenSpec.ofChange fnExactRecolorSpec)

/-- ITS FALSE NEIGHBOUR: 'it returns false'. Refute it at one input. -/
def fnExactRecolorWrong : ChangeSpec := { name := "fnExactRecolor", fn := fun _ => fun
  | [d1, d2] => { results := [.lit (.bool false)], args := [d1, d2] }
  | _ => none }
def FnExactRecolorWrongFalsely : Prop := fnExactRecolorRow.holds Try.pinned (OpenSpec.ofChange fnExactRecolorWrong)

/-- 'laws.FnBlocks': WHATEVER THE INPUT: true; the input reads as it did. -/
def fnBlocksSpec : ChangeSpec := { name := "fnBlocks", fn := fun _ => fun
  | [d] => { results := [.lit (.bool true)], args := [d] }
  | _ => none }
def fnBlocksRow : OpenClaim := { program := "ytkkiibjnpkjijaa", sum := "3a75a5bcb1d35197ed6d2eb054ff0a869b2204012fa64b9d9c1966f349ebb20b", func := "loop.example/g00711/laws.FnBlocks", spec := "fnBlocks", unfollowed := true, recurses := true, apart := false }
def FnBlocksSaid : Prop := fnBlocksRow.holds Try.pinned (OpenSpec.ofChange fnBlocksSpec)

/-- ITS FALSE NEIGHBOUR: 'it returns false'. Refute it at one input. -/
def fnBlocksWrong : ChangeSpec := { name := "fnBlocks", fn := fun _ => fun
  | [d] => { results := [.lit (.bool false)], args := [d] }
  | _ => none }
def FnBlocksWrongFalsely : Prop := fnBlocksRow.holds Try.pinned (OpenSpec.ofChange fnBlocksWrong)

/-- 'laws.FnColor': WHATEVER THE INPUT: true; the input reads as it did. -/
def fnColorSpec : ChangeSpec := { name := "fnColor", fn := fun _ => fun
  | [d] => { results := [.lit (.bool true)], args := [d] }
  | _ => none }
def fnColorRow : OpenClaim := { program := "ytkkiibjnpkjijaa", sum := "3a75a5bcb1d35197ed6d2eb054ff0a869b2204012fa64b9d9c1966f349ebb20b", func := "loop.example/g00711/laws.FnColor", spec := "fnColor", inPlace := ["internal/bytealg.IndexByteString"], apart := false }
def FnColorSaid : Prop := fnColorRow.holds Try.pinned (OpenSpec.ofChange fnColorSpec)

/-- ITS FALSE NEIGHBOUR: 'it returns false'. Refute it at one input. -/
def fnColorWrong : ChangeSpec := { name := "fnColor", fn := fun _ => fun
  | [d] => { results := [.lit (.bool false)], args := [d] }
  | _ => none }
def FnColorWrongFalsely : Prop := fnColorRow.holds Try.pinned (OpenSpec.ofChange fnColorWrong)

/-- 'laws.FnExactPutItems': WHATEVER THE INPUT: true; the input reads as it did. -/
def fnExactPutItemsSpec : ChangeSpec := { name := "fnExactPutItems", fn := fun _ => fun
  | [d1, d2, d3] => { results := [.lit (.bool true)], args := [d1, d2, d3] }
  | _ => none }
def fnExactPutItemsRow : OpenClaim := { program := "ytkkiibjnpkjijaa", sum := "3a75a5bcb1d35197ed6d2eb054ff0a869b2204012fa64b9d9c1966f349ebb20b", func := "loop.example/g00711/laws.FnExactPutItems", spec := "fnExactPutItems", inPlace := ["internal/bytealg.IndexByteString"], unfollowed := true, recurses := true, apart := false }
def FnExactPutItemsSaid : Prop := fnExactPutItemsRow.holds Try.pinned (OpenSpec.ofChange fnExactPutItemsSpec)

/-- ITS FALSE NEIGHBOUR: 'it returns false'. Refute it at one input. -/
def fnExactPutItemsWrong : ChangeSpec := { name := "fnExactPutItems", fn := fun _ => fun
  | [d1, d2, d3] => { results := [.lit (.bool false)], args := [d1, d2, d3] }
  | _ => none }
def FnExactPutItemsWrongFalsely : Prop := fnExactPutItemsRow.holds Try.pinned (OpenSpec.ofChange fnExactPutItemsWrong)

/-- 'laws.FnExactParseCells': WHATEVER THE INPUT: true; the input reads as it did. -/
def fnExactParseCellsSpec : ChangeSpec := { name := "fnExactParseCells", fn := fun _ => fun
  | [d] => { results := [.lit (.bool true)], args := [d] }
  | _ => none }
def fnExactParseCellsRow : OpenClaim := { program := "ytkkiibjnpkjijaa", sum := "3a75a5bcb1d35197ed6d2eb054ff0a869b2204012fa64b9d9c1966f349ebb20b", func := "loop.example/g00711/laws.FnExactParseCells", spec := "fnExactParseCells", inPlace := ["internal/bytealg.IndexByteString"], apart := false }
def FnExactParseCellsSaid : Prop := fnExactParseCellsRow.holds Try.pinned (OpenSpec.ofChange fnExactParseCellsSpec)

/-- ITS FALSE NEIGHBOUR: 'it returns false'. Refute it at one input. -/
def fnExactParseCellsWrong : ChangeSpec := { name := "fnExactParseCells", fn := fun _ => fun
  | [d] => { results := [.lit (.bool false)], args := [d] }
  | _ => none }
def FnExactParseCellsWrongFalsely : Prop := fnExactParseCellsRow.holds Try.pinned (OpenSpec.ofChange fnExactParseCellsWrong)

/-- 'laws.FnExactListOk': WHATEVER THE INPUT: true; the input reads as it did. -/
def fnExactListOkSpec : ChangeSpec := { name := "fnExactListOk", fn := fun _ => fun
  | [d] => { results := [.lit (.bool true)], args := [d] }
  | _ => none }
def fnExactListOkRow : OpenClaim := { program := "ytkkiibjnpkjijaa", sum := "3a75a5bcb1d35197ed6d2eb054ff0a869b2204012fa64b9d9c1966f349ebb20b", func := "loop.example/g00711/laws.FnExactListOk", spec := "fnExactListOk", inPlace := ["internal/bytealg.IndexByteString"], apart := false }
def FnExactListOkSaid : Prop := fnExactListOkRow.holds Try.pinned (OpenSpec.ofChange fnExactListOkSpec)

/-- ITS FALSE NEIGHBOUR: 'it returns false'. Refute it at one input. -/
def fnExactListOkWrong : ChangeSpec := { name := "fnExactListOk", fn := fun _ => fun
  | [d] => { results := [.lit (.bool false)], args := [d] }
  | _ => none }
def FnExactListOkWrongFalsely : Prop := fnExactListOkRow.holds Try.pinned (OpenSpec.ofChange fnExactListOkWrong)

/-- 'laws.FnExactItemsOf': WHATEVER THE INPUT: true; the input reads as it did. -/
def fnExactItemsOfSpec : ChangeSpec := { name := "fnExactItemsOf", fn := fun _ => fun
  | [d1, d2] => { results := [.lit (.bool true)], args := [d1, d2] }
  | _ => none }
def fnExactItemsOfRow : OpenClaim := { program := "ytkkiibjnpkjijaa", sum := "3a75a5bcb1d35197ed6d2eb054ff0a869b2204012fa64b9d9c1966f349ebb20b", func := "loop.example/g00711/laws.FnExactItemsOf", spec := "fnExactItemsOf", inPlace := ["internal/bytealg.IndexByteString"], unfollowed := true, recurses := true, apart := false }
def FnExactItemsOfSaid : Prop := fnExactItemsOfRow.holds Try.pinned (OpenSpec.ofChange fnExactItemsOfSpec)

/-- ITS FALSE NEIGHBOUR: 'it returns false'. Refute it at one input. -/
def fnExactItemsOfWrong : ChangeSpec := { name := "fnExactItemsOf", fn := fun _ => fun
  | [d1, d2] => { results := [.lit (.bool false)], args := [d1, d2] }
  | _ => none }
def FnExactItemsOfWrongFalsely : Prop := fnExactItemsOfRow.holds Try.pinned (OpenSpec.ofChange fnExactItemsOfWrong)

/- THE SECOND FORM. 'bulk': how many values and letters a reading holds, each counted each time it is reached (what is shared counts as often as it is met; a slice's spare places count too). A statement '..UptoSaid' is the law's where the arguments, and the package variables that the reading takes, are together of bulk at most 1048576: NARROWER than '..Said'. Prove '..Said' where nothing that the law and all that it calls make is longer than what came in: it says more and counts as full. Else prove '..UptoSaid'. A law counts once. -/
mutual
def uptoBulk {H : Type} : DataW H → Nat
  | .lit (.string bytes) => bytes.length + 1
  | .lit _ => 1
  | .nil => 1
  | .ptr d => uptoBulk d + 1
  | .slice elems spare => uptoBulkAll elems + uptoBulkAll spare + 1
  | .agg parts => uptoBulkAll parts + 1
  | .iface _ d => uptoBulk d + 1
  | .map entries => uptoBulkEntries entries + 1
  | .held _ => 1
def uptoBulkAll {H : Type} : List (DataW H) → Nat
  | [] => 0
  | d :: r => uptoBulk d + uptoBulkAll r
def uptoBulkEntries {H : Type} : List (Lit × DataW H) → Nat
  | [] => 0
  | x :: r => uptoBulkEntry x + uptoBulkEntries r
def uptoBulkEntry {H : Type} : Lit × DataW H → Nat
  | (.string bytes, d) => bytes.length + uptoBulk d + 1
  | (_, d) => uptoBulk d + 1
 end
def uptoSmall : (H : Type) → List (DataW H) → Bool := fun _ ds => decide (uptoBulkAll ds ≤ 1048576)
def OpenSpec.upto (s : _root_.Go.ChangeSpec) : _root_.Go.OpenSpec := { _root_.Go.OpenSpec.ofChange s with cond := some uptoSmall }

/-- 'laws.FnCells', WHERE WHAT IT READS IS OF BULK AT MOST 1048576: true; the input reads as it did. -/
def fnCellsUptoRow : OpenClaim := { program := "ytkkiibjnpkjijaa", sum := "3a75a5bcb1d35197ed6d2eb054ff0a869b2204012fa64b9d9c1966f349ebb20b", func := "loop.example/g00711/laws.FnCells", spec := "fnCells", inPlace := ["internal/bytealg.IndexByteString"], apart := false, narrowed := true }
def FnCellsUptoSaid : Prop := fnCellsUptoRow.holds Try.pinned (OpenSpec.upto fnCellsSpec)

/-- 'laws.FnExactReadImage', WHERE WHAT IT READS IS OF BULK AT MOST 1048576: true; the input reads as it did. -/
def fnExactReadImageUptoRow : OpenClaim := { program := "ytkkiibjnpkjijaa", sum := "3a75a5bcb1d35197ed6d2eb054ff0a869b2204012fa64b9d9c1966f349ebb20b", func := "loop.example/g00711/laws.FnExactReadImage", spec := "fnExactReadImage", apart := false, narrowed := true }
def FnExactReadImageUptoSaid : Prop := fnExactReadImageUptoRow.holds Try.pinned (OpenSpec.upto fnExactReadImageSpec)

/-- 'laws.FnExactCopyBlock', WHERE WHAT IT READS IS OF BULK AT MOST 1048576: true; the input reads as it did. -/
def fnExactCopyBlockUptoRow : OpenClaim := { program := "ytkkiibjnpkjijaa", sum := "3a75a5bcb1d35197ed6d2eb054ff0a869b2204012fa64b9d9c1966f349ebb20b", func := "loop.example/g00711/laws.FnExactCopyBlock", spec := "fnExactCopyBlock", unfollowed := true, recurses := true, apart := false, narrowed := true }
def FnExactCopyBlockUptoSaid : Prop := fnExactCopyBlockUptoRow.holds Try.pinned (OpenSpec.upto fnExactCopyBlockSpec)

/-- 'laws.FnExactRecolor', WHERE WHAT IT READS IS OF BULK AT MOST 1048576: true; the input reads as it did. -/
def fnExactRecolorUptoRow : OpenClaim := { program := "ytkkiibjnpkjijaa", sum := "3a75a5bcb1d35197ed6d2eb054ff0a869b2204012fa64b9d9c1966f349ebb20b", func := "loop.example/g00711/laws.FnExactRecolor", spec := "fnExactRecolor", inPlace := ["internal/bytealg.IndexByteString"], apart := false, narrowed := true }
def FnExactRecolorUptoSaid : Prop := fnExactRecolorUptoRow.holds Try.pinned (OpenSpec.upto fnExactRecolorSpec)

/-- 'laws.FnBlocks', WHERE WHAT IT READS IS OF BULK AT MOST 1048576: true; the input reads as it did. -/
def fnBlocksUptoRow : OpenClaim := { program := "ytkkiibjnpkjijaa", sum := "3a75a5bcb1d35197ed6d2eb054ff0a869b2204012fa64b9d9c1966f349ebb20b", func := "loop.example/g00711/laws.FnBlocks", spec := "fnBlocks", unfollowed := true, recurses := true, apart := false, narrowed := true }
def FnBlocksUptoSaid : Prop := fnBlocksUptoRow.holds Try.pinned (OpenSpec.upto fnBlocksSpec)

/-- 'laws.FnColor', WHERE WHAT IT READS IS OF BULK AT MOST 1048576: true; the input reads as it did. -/
def fnColorUptoRow : OpenClaim := { program := "ytkkiibjnpkjijaa", sum := "3a75a5bcb1d35197ed6d2eb054ff0a869b2204012fa64b9d9c1966f349ebb20b", func := "loop.example/g00711/laws.FnColor", spec := "fnColor", inPlace := ["internal/bytealg.IndexByteString"], apart := false, narrowed := true }
def FnColorUptoSaid : Prop := fnColorUptoRow.holds Try.pinned (OpenSpec.upto fnColorSpec)

/-- 'laws.FnExactPutItems', WHERE WHAT IT READS IS OF BULK AT MOST 1048576: true; the input reads as it did. -/
def fnExactPutItemsUptoRow : OpenClaim := { program := "ytkkiibjnpkjijaa", sum := "3a75a5bcb1d35197ed6d2eb054ff0a869b2204012fa64b9d9c1966f349ebb20b", func := "loop.example/g00711/laws.FnExactPutItems", spec := "fnExactPutItems", inPlace := ["internal/bytealg.IndexByteString"], unfollowed := true, recurses := true, apart := false, narrowed := true }
def FnExactPutItemsUptoSaid : Prop := fnExactPutItemsUptoRow.holds Try.pinned (OpenSpec.upto fnExactPutItemsSpec)

/-- 'laws.FnExactParseCells', WHERE WHAT IT READS IS OF BULK AT MOST 1048576: true; the input reads as it did. -/
def fnExactParseCellsUptoRow : OpenClaim := { program := "ytkkiibjnpkjijaa", sum := "3a75a5bcb1d35197ed6d2eb054ff0a869b2204012fa64b9d9c1966f349ebb20b", func := "loop.example/g00711/laws.FnExactParseCells", spec := "fnExactParseCells", inPlace := ["internal/bytealg.IndexByteString"], apart := false, narrowed := true }
def FnExactParseCellsUptoSaid : Prop := fnExactParseCellsUptoRow.holds Try.pinned (OpenSpec.upto fnExactParseCellsSpec)

/-- 'laws.FnExactListOk', WHERE WHAT IT READS IS OF BULK AT MOST 1048576: true; the input reads as it did. -/
def fnExactListOkUptoRow : OpenClaim := { program := "ytkkiibjnpkjijaa", sum := "3a75a5bcb1d35197ed6d2eb054ff0a869b2204012fa64b9d9c1966f349ebb20b", func := "loop.example/g00711/laws.FnExactListOk", spec := "fnExactListOk", inPlace := ["internal/bytealg.IndexByteString"], apart := false, narrowed := true }
def FnExactListOkUptoSaid : Prop := fnExactListOkUptoRow.holds Try.pinned (OpenSpec.upto fnExactListOkSpec)

/-- 'laws.FnExactItemsOf', WHERE WHAT IT READS IS OF BULK AT MOST 1048576: true; the input reads as it did. -/
def fnExactItemsOfUptoRow : OpenClaim := { program := "ytkkiibjnpkjijaa", sum := "3a75a5bcb1d35197ed6d2eb054ff0a869b2204012fa64b9d9c1966f349ebb20b", func := "loop.example/g00711/laws.FnExactItemsOf", spec := "fnExactItemsOf", inPlace := ["internal/bytealg.IndexByteString"], unfollowed := true, recurses := true, apart := false, narrowed := true }
def FnExactItemsOfUptoSaid : Prop := fnExactItemsOfUptoRow.holds Try.pinned (OpenSpec.upto fnExactItemsOfSpec)

end Rows
end Go.Proofs.Ytkkiibjnpkjijaa
