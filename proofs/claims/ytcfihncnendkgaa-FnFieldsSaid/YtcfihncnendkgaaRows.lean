/-
  No cell of these rows narrows 'for every input' (looked for: loops, veiled, ifaces, maps, wideKeys, modest, calm, conditions, laid).
  DERIVED. THE GIVEN ROWS OF THIS SEAT. 10 by the template 'for every input the law returns true; each argument reads behind the call as it read before'; 0 by the template 'total and deterministic' (their statements: YtcfihncnendkgaaTotals.lean).
  GIVEN WITH THE SEED: the statements are not yours to turn. If you find one false, say at which input.
  Laid BY PROGRAM, IN A SANDBOX (cutbox-rows.mjs): the forced cells as the released guide's own fill.sh prints them over the translation 791bd2e06cf78eed… (all of the seat's roots in one cut). By AI agents, Wed Nov 11 2026. No macro, syntax, notation, axiom, sorry.
-/
import Derived.Test.YtcfihncnendkgaaChecked
import GoSem.Claim
import GoSem.ClaimJoined
import GoSem.ClaimMapViews
import Derived.JoinedTies
import Derived.KernelRfl
namespace Go.Proofs.Ytcfihncnendkgaa
/- THE CELL 'sum', in the pinned program and in every row, IS THE sha256 OF THE DUMP (.gsa) THAT YtcfihncnendkgaaProg.lean LOADS. Nothing in Lean hashes anything: it is a label: what it is worth is what the hold of that sum in a sandbox is worth. -/
noncomputable def Try.pinned : Pinned := { name := "ytcfihncnendkgaa", sum := "791bd2e06cf78eed8ff8aa75b7cef6e19298e16c41c5014c08a1ef316b8e6da2", checked := Try.checked }
namespace Rows
def none {H : Type} : Left H := { results := [], args := [] }

/-- 'laws.FnExactFieldOk': WHATEVER THE INPUT: true; the input reads as it did. -/
def fnExactFieldOkSpec : ChangeSpec := { name := "fnExactFieldOk", fn := fun _ => fun
  | [d] => { results := [.lit (.bool true)], args := [d] }
  | _ => none }
def fnExactFieldOkRow : OpenClaim := { program := "ytcfihncnendkgaa", sum := "791bd2e06cf78eed8ff8aa75b7cef6e19298e16c41c5014c08a1ef316b8e6da2", func := "loop.example/g00711/laws.FnExactFieldOk", spec := "fnExactFieldOk", inPlace := ["internal/bytealg.IndexByteString"], apart := false }
def FnExactFieldOkSaid : Prop := fnExactFieldOkRow.holds Try.pinned (OpenSpec.ofChange fnExactFieldOkSpec)

/-- ITS FALSE NEIGHBOUR: 'it returns false'. Refute it at one input. -/
def fnExactFieldOkWrong : ChangeSpec := { name := "fnExactFieldOk", fn := fun _ => fun
  | [d] => { results := [.lit (.bool false)], args := [d] }
  | _ => none }
def FnExactFieldOkWrongFalsely : Prop := fnExactFieldOkRow.holds Try.pinned (OpenSpec.ofChange fnExactFieldOkWrong)

/-- 'laws.FnSum': WHATEVER THE INPUT: true; the input reads as it did. -/
def fnSumSpec : ChangeSpec := { name := "fnSum", fn := fun _ => fun
  | [d] => { results := [.lit (.bool true)], args := [d] }
  | _ => none }
def fnSumRow : OpenClaim := { program := "ytcfihncnendkgaa", sum := "791bd2e06cf78eed8ff8aa75b7cef6e19298e16c41c5014c08a1ef316b8e6da2", func := "loop.example/g00711/laws.FnSum", spec := "fnSum", apart := false }
def FnSumSaid : Prop := fnSumRow.holds Try.pinned (OpenSpec.ofChange fnSumSpec)

/-- ITS FALSE NEIGHBOUR: 'it returns false'. Refute it at one input. -/
def fnSumWrong : ChangeSpec := { name := "fnSum", fn := fun _ => fun
  | [d] => { results := [.lit (.bool false)], args := [d] }
  | _ => none }
def FnSumWrongFalsely : Prop := fnSumRow.holds Try.pinned (OpenSpec.ofChange fnSumWrong)

/-- 'laws.FnExactItemOk': WHATEVER THE INPUT: true; the input reads as it did. -/
def fnExactItemOkSpec : ChangeSpec := { name := "fnExactItemOk", fn := fun _ => fun
  | [d] => { results := [.lit (.bool true)], args := [d] }
  | _ => none }
def fnExactItemOkRow : OpenClaim := { program := "ytcfihncnendkgaa", sum := "791bd2e06cf78eed8ff8aa75b7cef6e19298e16c41c5014c08a1ef316b8e6da2", func := "loop.example/g00711/laws.FnExactItemOk", spec := "fnExactItemOk", inPlace := ["internal/bytealg.IndexByteString"], apart := false }
def FnExactItemOkSaid : Prop := fnExactItemOkRow.holds Try.pinned (OpenSpec.ofChange fnExactItemOkSpec)

/-- ITS FALSE NEIGHBOUR: 'it returns false'. Refute it at one input. -/
def fnExactItemOkWrong : ChangeSpec := { name := "fnExactItemOk", fn := fun _ => fun
  | [d] => { results := [.lit (.bool false)], args := [d] }
  | _ => none }
def FnExactItemOkWrongFalsely : Prop := fnExactItemOkRow.holds Try.pinned (OpenSpec.ofChange fnExactItemOkWrong)

/-- 'laws.FnExactUnpack': WHATEVER THE INPUT: true; the input reads as it did. -/
def fnExactUnpackSpec : ChangeSpec := { name := "fnExactUnpack", fn := fun _ => fun
  | [d] => { results := [.lit (.bool true)], args := [d] }
  | _ => none }
def fnExactUnpackRow : OpenClaim := { program := "ytcfihncnendkgaa", sum := "791bd2e06cf78eed8ff8aa75b7cef6e19298e16c41c5014c08a1ef316b8e6da2", func := "loop.example/g00711/laws.FnExactUnpack", spec := "fnExactUnpack", inPlace := ["internal/bytealg.IndexByteString"], apart := false }
def FnExactUnpackSaid : Prop := fnExactUnpackRow.holds Try.pinned (OpenSpec.ofChange fnExactUnpackSpec)

/-- ITS FALSE NEIGHBOUR: 'it returns false'. Refute it at one input. -/
def fnExactUnpackWrong : ChangeSpec := { name := "fnExactUnpack", fn := fun _ => fun
  | [d] => { results := [.lit (.bool false)], args := [d] }
  | _ => none }
def FnExactUnpackWrongFalsely : Prop := fnExactUnpackRow.holds Try.pinned (OpenSpec.ofChange fnExactUnpackWrong)

/-- 'laws.FnExactCellsOf': WHATEVER THE INPUT: true; the input reads as it did. -/
def fnExactCellsOfSpec : ChangeSpec := { name := "fnExactCellsOf", fn := fun _ => fun
  | [d] => { results := [.lit (.bool true)], args := [d] }
  | _ => none }
def fnExactCellsOfRow : OpenClaim := { program := "ytcfihncnendkgaa", sum := "791bd2e06cf78eed8ff8aa75b7cef6e19298e16c41c5014c08a1ef316b8e6da2", func := "loop.example/g00711/laws.FnExactCellsOf", spec := "fnExactCellsOf", inPlace := ["internal/bytealg.IndexByteString"], apart := false }
def FnExactCellsOfSaid : Prop := fnExactCellsOfRow.holds Try.pinned (OpenSpec.ofChange fnExactCellsOfSpec)

/-- ITS FALSE NEIGHBOUR: 'it returns false'. Refute it at one input. -/
def fnExactCellsOfWrong : ChangeSpec := { name := "fnExactCellsOf", fn := fun _ => fun
  | [d] => { results := [.lit (.bool false)], args := [d] }
  | _ => none }
def FnExactCellsOfWrongFalsely : Prop := fnExactCellsOfRow.holds Try.pinned (OpenSpec.ofChange fnExactCellsOfWrong)

/-- 'laws.FnExactRecolor': WHATEVER THE INPUT: true; the input reads as it did. -/
def fnExactRecolorSpec : ChangeSpec := { name := "fnExactRecolor", fn := fun _ => fun
  | [d1, d2] => { results := [.lit (.bool true)], args := [d1, d2] }
  | _ => none }
def fnExactRecolorRow : OpenClaim := { program := "ytcfihncnendkgaa", sum := "791bd2e06cf78eed8ff8aa75b7cef6e19298e16c41c5014c08a1ef316b8e6da2", func := "loop.example/g00711/laws.FnExactRecolor", spec := "fnExactRecolor", inPlace := ["internal/bytealg.IndexByteString"], apart := false }
def FnExactRecolorSaid : Prop := fnExactRecolorRow.holds Try.pinned (OpenSpec.ofChange fnExactRecolorSpec)

/-- ITS FALSE NEIGHBOUR: 'it returns false'. Refute it at one input. -/
def fnExactRecolorWrong : ChangeSpec := { name := "fnExactRecolor", fn := fun _ => fun
  | [d1, d2] => { results := [.lit (.bool false)], args := [d1, d2] }
  | _ => none }
def FnExactRecolorWrongFalsely : Prop := fnExactRecolorRow.holds Try.pinned (OpenSpec.ofChange fnExactRecolorWrong)

/-- 'laws.FnImage': WHATEVER THE INPUT: true; the input reads as it did. -/
def fnImageSpec : ChangeSpec := { name := "fnImage", fn := fun _ => fun
  | [d] => { results := [.lit (.bool true)], args := [d] }
  | _ => none }
def fnImageRow : OpenClaim := { program := "ytcfihncnendkgaa", sum := "791bd2e06cf78eed8ff8aa75b7cef6e19298e16c41c5014c08a1ef316b8e6da2", func := "loop.example/g00711/laws.FnImage", spec := "fnImage", apart := false }
def FnImageSaid : Prop := fnImageRow.holds Try.pinned (OpenSpec.ofChange fnImageSpec)

/-- ITS FALSE NEIGHBOUR: 'it returns false'. Refute it at one input. -/
def fnImageWrong : ChangeSpec := { name := "fnImage", fn := fun _ => fun
  | [d] => { results := [.lit (.bool false)], args := [d] }
  | _ => none }
def FnImageWrongFalsely : Prop := fnImageRow.holds Try.pinned (OpenSpec.ofChange fnImageWrong)

/-- 'laws.FnFields': WHATEVER THE INPUT: true; the input reads as it did. -/
def fnFieldsSpec : ChangeSpec := { name := "fnFields", fn := fun _ => fun
  | [d] => { results := [.lit (.bool true)], args := [d] }
  | _ => none }
def fnFieldsRow : OpenClaim := { program := "ytcfihncnendkgaa", sum := "791bd2e06cf78eed8ff8aa75b7cef6e19298e16c41c5014c08a1ef316b8e6da2", func := "loop.example/g00711/laws.FnFields", spec := "fnFields", inPlace := ["internal/bytealg.IndexByteString"], apart := false }
def FnFieldsSaid : Prop := fnFieldsRow.holds Try.pinned (OpenSpec.ofChange fnFieldsSpec)

/-- ITS FALSE NEIGHBOUR: 'it returns false'. Refute it at one input. -/
def fnFieldsWrong : ChangeSpec := { name := "fnFields", fn := fun _ => fun
  | [d] => { results := [.lit (.bool false)], args := [d] }
  | _ => none }
def FnFieldsWrongFalsely : Prop := fnFieldsRow.holds Try.pinned (OpenSpec.ofChange fnFieldsWrong)

/-- 'laws.FnBlocks': WHATEVER THE INPUT: true; the input reads as it did. -/
def fnBlocksSpec : ChangeSpec := { name := "fnBlocks", fn := fun _ => fun
  | [d] => { results := [.lit (.bool true)], args := [d] }
  | _ => none }
def fnBlocksRow : OpenClaim := { program := "ytcfihncnendkgaa", sum := "791bd2e06cf78eed8ff8aa75b7cef6e19298e16c41c5014c08a1ef316b8e6da2", func := "loop.example/g00711/laws.FnBlocks", spec := "fnBlocks", unfollowed := true, recurses := true, apart := false }
def FnBlocksSaid : Prop := fnBlocksRow.holds Try.pinned (OpenSpec.ofChange fnBlocksSpec)

/-- ITS FALSE NEIGHBOUR: 'it returns false'. Refute it at one input. -/
def fnBlocksWrong : ChangeSpec := { name := "fnBlocks", fn := fun _ => fun
  | [d] => { results := [.lit (.bool false)], args := [d] }
  | _ => none }
def FnBlocksWrongFalsely : Prop := fnBlocksRow.holds Try.pinned (OpenSpec.ofChange fnBlocksWrong)

/-- 'laws.FnColor': WHATEVER THE INPUT: true; the input reads as it did. -/
def fnColorSpec : ChangeSpec := { name := "fnColor", fn := fun _ => fun
  | [d] => { results := [.lit (.bool true)], args := [d] }
  | _ => none }
def fnColorRow : OpenClaim := { program := "ytcfihncnendkgaa", sum := "791bd2e06cf78eed8ff8aa75b7cef6e19298e16c41c5014c08a1ef316b8e6da2", func := "loop.example/g00711/laws.FnColor", spec := "fnColor", inPlace := ["internal/bytealg.IndexByteString"], apart := false }
def FnColorSaid : Prop := fnColorRow.holds Try.pinned (OpenSpec.ofChange fnColorSpec)

/-- ITS FALSE NEIGHBOUR: 'it returns false'. Refute it at one input. -/
def fnColorWrong : ChangeSpec := { name := "fnColor", fn := fun _ => fun
  | [d] => { results := [.lit (.bool false)], args := [d] }
  | _ => none }
def FnColorWrongFalsely : Prop := fnColorRow.holds Try.pinned (OpenSpec.ofChange fnColorWrong)

/- THE SECOND FORM. 'bulk': how many values and letters a reading holds, each counted each time it is reached (what is shared counts as often as it is met; a slice's spare places count too). A statement '..UptoSaid' is the law's where the arguments, and the package variables that the reading takes, are together of bulk at most 1048576: NARROWER than '..Said'. Prove '..Said' where nothing that the law and all that it calls make is longer than what came in: it says more and counts as full. Else prove '..UptoSaid'. A law counts once. -/
mutual
def uptoBulk {H : Type} : DataW H → Nat
  | .lit (.string bytes) => bytes.length + 1
  | .lit _ => 1
  | .nil => 1
  | .ptr d => uptoBulk d + 1
  | .slice elems spare => uptoBulkAll elems + uptoBulkAll spare + 1
  | .agg parts => uptoBulkAll parts + 1
  | .iface _ d => uptoBulk d + 1
  | .map entries => uptoBulkEntries entries + 1
  | .held _ => 1
def uptoBulkAll {H : Type} : List (DataW H) → Nat
  | [] => 0
  | d :: r => uptoBulk d + uptoBulkAll r
def uptoBulkEntries {H : Type} : List (Lit × DataW H) → Nat
  | [] => 0
  | x :: r => uptoBulkEntry x + uptoBulkEntries r
def uptoBulkEntry {H : Type} : Lit × DataW H → Nat
  | (.string bytes, d) => bytes.length + uptoBulk d + 1
  | (_, d) => uptoBulk d + 1
 end
def uptoSmall : (H : Type) → List (DataW H) → Bool := fun _ ds => decide (uptoBulkAll ds ≤ 1048576)
def OpenSpec.upto (s : _root_.Go.ChangeSpec) : _root_.Go.OpenSpec := { _root_.Go.OpenSpec.ofChange s with cond := some uptoSmall }

/-- 'laws.FnExactFieldOk', WHERE WHAT IT READS IS OF BULK AT MOST 1048576: true; the input reads as it did. -/
def fnExactFieldOkUptoRow : OpenClaim := { program := "ytcfihncnendkgaa", sum := "791bd2e06cf78eed8ff8aa75b7cef6e19298e16c41c5014c08a1ef316b8e6da2", func := "loop.example/g00711/laws.FnExactFieldOk", spec := "fnExactFieldOk", inPlace := ["internal/bytealg.IndexByteString"], apart := false, narrowed := true }
def FnExactFieldOkUptoSaid : Prop := fnExactFieldOkUptoRow.holds Try.pinned (OpenSpec.upto fnExactFieldOkSpec)

/-- 'laws.FnSum', WHERE WHAT IT READS IS OF BULK AT MOST 1048576: true; the input reads as it did. -/
def fnSumUptoRow : OpenClaim := { program := "ytcfihncnendkgaa", sum := "791bd2e06cf78eed8ff8aa75b7cef6e19298e16c41c5014c08a1ef316b8e6da2", func := "loop.example/g00711/laws.FnSum", spec := "fnSum", apart := false, narrowed := true }
def FnSumUptoSaid : Prop := fnSumUptoRow.holds Try.pinned (OpenSpec.upto fnSumSpec)

/-- 'laws.FnExactItemOk', WHERE WHAT IT READS IS OF BULK AT MOST 1048576: true; the input reads as it did. -/
def fnExactItemOkUptoRow : OpenClaim := { program := "ytcfihncnendkgaa", sum := "791bd2e06cf78eed8ff8aa75b7cef6e19298e16c41c5014c08a1ef316b8e6da2", func := "loop.example/g00711/laws.FnExactItemOk", spec := "fnExactItemOk", inPlace := ["internal/bytealg.IndexByteString"], apart := false, narrowed := true }
def FnExactItemOkUptoSaid : Prop := fnExactItemOkUptoRow.holds Try.pinned (OpenSpec.upto fnExactItemOkSpec)

/-- 'laws.FnExactUnpack', WHERE WHAT IT READS IS OF BULK AT MOST 1048576: true; the input reads as it did. -/
def fnExactUnpackUptoRow : OpenClaim := { program := "ytcfihncnendkgaa", sum := "791bd2e06cf78eed8ff8aa75b7cef6e19298e16c41c5014c08a1ef316b8e6da2", func := "loop.example/g00711/laws.FnExactUnpack", spec := "fnExactUnpack", inPlace := ["internal/bytealg.IndexByteString"], apart := false, narrowed := true }
def FnExactUnpackUptoSaid : Prop := fnExactUnpackUptoRow.holds Try.pinned (OpenSpec.upto fnExactUnpackSpec)

/-- 'laws.FnExactCellsOf', WHERE WHAT IT READS IS OF BULK AT MOST 1048576: true; the input reads as it did. -/
def fnExactCellsOfUptoRow : OpenClaim := { program := "ytcfihncnendkgaa", sum := "791bd2e06cf78eed8ff8aa75b7cef6e19298e16c41c5014c08a1ef316b8e6da2", func := "loop.example/g00711/laws.FnExactCellsOf", spec := "fnExactCellsOf", inPlace := ["internal/bytealg.IndexByteString"], apart := false, narrowed := true }
def FnExactCellsOfUptoSaid : Prop := fnExactCellsOfUptoRow.holds Try.pinned (OpenSpec.upto fnExactCellsOfSpec)

/-- 'laws.FnExactRecolor', WHERE WHAT IT READS IS OF BULK AT MOST 1048576: true; the input reads as it did. -/
def fnExactRecolorUptoRow : OpenClaim := { program := "ytcfihncnendkgaa", sum := "791bd2e06cf78eed8ff8aa75b7cef6e19298e16c41c5014c08a1ef316b8e6da2", func := "loop.example/g00711/laws.FnExactRecolor", spec := "fnExactRecolor", inPlace := ["internal/bytealg.IndexByteString"], apart := false, narrowed := true }
def FnExactRecolorUptoSaid : Prop := fnExactRecolorUptoRow.holds Try.pinned (OpenSpec.upto fnExactRecolorSpec)

/-- 'laws.FnImage', WHERE WHAT IT READS IS OF BULK AT MOST 1048576: true; the input reads as it did. -/
def fnImageUptoRow : OpenClaim := { program := "ytcfihncnendkgaa", sum := "791bd2e06cf78eed8ff8aa75b7cef6e19298e16c41c5014c08a1ef316b8e6da2", func := "loop.example/g00711/laws.FnImage", spec := "fnImage", apart := false, narrowed := true }
def FnImageUptoSaid : Prop := fnImageUptoRow.holds Try.pinned (OpenSpec.upto fnImageSpec)

/-- 'laws.FnFields', WHERE WHAT IT READS IS OF BULK AT MOST 1048576: true; the input reads as it did. -/
def fnFieldsUptoRow : OpenClaim := { program := "ytcfihncnendkgaa", sum := "791bd2e06cf78eed8ff8aa75b7cef6e19298e16c41c5014c08a1ef316b8e6da2", func := "loop.example/g00711/laws.FnFields", spec := "fnFields", inPlace := ["internal/bytealg.IndexByteString"], apart := false, narrowed := true }
def FnFieldsUptoSaid : Prop := fnFieldsUptoRow.holds Try.pinned (OpenSpec.upto fnFieldsSpec)

/-- 'laws.FnBlocks', WHERE WHAT IT READS IS OF BULK AT MOST 1048576: true; the input reads as it did. -/
def fnBlocksUptoRow : OpenClaim := { program := "ytcfihncnendkgaa", sum := "791bd2e06cf78eed8ff8aa75b7cef6e19298e16c41c5014c08a1ef316b8e6da2", func := "loop.example/g00711/laws.FnBlocks", spec := "fnBlocks", unfollowed := true, recurses := true, apart := false, narrowed := true }
def FnBlocksUptoSaid : Prop := fnBlocksUptoRow.holds Try.pinned (OpenSpec.upto fnBlocksSpec)

/-- 'laws.FnColor', WHERE WHAT IT READS IS OF BULK AT MOST 1048576: true; the input reads as it did. -/
def fnColorUptoRow : OpenClaim := { program := "ytcfihncnendkgaa", sum := "791bd2e06cf78eed8ff8aa75b7cef6e19298e16c41c5014c08a1ef316b8e6da2", func := "loop.example/g00711/laws.FnColor", spec := "fnColor", inPlace := ["internal/bytealg.IndexByteString"], apart := false, narrowed := true }
def FnColorUptoSaid : Prop := fnColorUptoRow.holds Try.pinned (OpenSpec.upto fnColorSpec)

end Rows
end Go.Proofs.Ytcfihncnendkgaa
