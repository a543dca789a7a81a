/-
  No cell of these rows narrows 'for every input' (looked for: loops, veiled, ifaces, maps, wideKeys, modest, calm, conditions, laid).
  DERIVED. THE GIVEN ROWS OF THIS SEAT. 10 by the template 'for every input the law returns true; each argument reads behind the call as it read before'; 0 by the template 'total and deterministic' (their statements: YtmdjagnbbddnhaaTotals.lean).
  GIVEN WITH THE SEED: the statements are not yours to turn. If you find one false, say at which input.
  Laid BY PROGRAM, IN A SANDBOX (cutbox-rows.mjs): the forced cells as the released guide's own fill.sh prints them over the translation f59934d59e6f4062… (all of the seat's roots in one cut). By AI agents, Wed Nov 11 2026. No macro, syntax, notation, axiom, sorry.
-/
import Derived.Test.YtmdjagnbbddnhaaChecked
import GoSem.Claim
import GoSem.ClaimJoined
import GoSem.ClaimMapViews
import Derived.JoinedTies
import Derived.KernelRfl
namespace Go.Proofs.Ytmdjagnbbddnhaa
/- THE CELL 'sum', in the pinned program and in every row, IS THE sha256 OF THE DUMP (.gsa) THAT YtmdjagnbbddnhaaProg.lean LOADS. Nothing in Lean hashes anything: it is a label: what it is worth is what the hold of that sum in a sandbox is worth. -/
noncomputable def Try.pinned : Pinned := { name := "ytmdjagnbbddnhaa", sum := "f59934d59e6f406268d4e0c45b2c38e76ce77a61dee07d00a757691517482ce3", checked := Try.checked }
namespace Rows
def none {H : Type} : Left H := { results := [], args := [] }

/-- 'laws.FnLetters': WHATEVER THE INPUT: true; the input reads as it did. -/
def fnLettersSpec : ChangeSpec := { name := "fnLetters", fn := fun _ => fun
  | [d] => { results := [.lit (.bool true)], args := [d] }
  | _ => none }
def fnLettersRow : OpenClaim := { program := "ytmdjagnbbddnhaa", sum := "f59934d59e6f406268d4e0c45b2c38e76ce77a61dee07d00a757691517482ce3", func := "loop.example/g00711/laws.FnLetters", spec := "fnLetters", inPlace := ["internal/bytealg.IndexByteString"], apart := false }
def FnLettersSaid : Prop := fnLettersRow.holds Try.pinned (OpenSpec.ofChange fnLettersSpec)

/-- ITS FALSE NEIGHBOUR: 'it returns false'. Refute it at one input. -/
def fnLettersWrong : ChangeSpec := { name := "fnLetters", fn := fun _ => fun
  | [d] => { results := [.lit (.bool false)], args := [d] }
  | _ => none }
def FnLettersWrongFalsely : Prop := fnLettersRow.holds Try.pinned (OpenSpec.ofChange fnLettersWrong)

/-- 'laws.FnExactBlockOf': WHATEVER THE INPUT: true; the input reads as it did. -/
def fnExactBlockOfSpec : ChangeSpec := { name := "fnExactBlockOf", fn := fun _ => fun
  | [d1, d2] => { results := [.lit (.bool true)], args := [d1, d2] }
  | _ => none }
def fnExactBlockOfRow : OpenClaim := { program := "ytmdjagnbbddnhaa", sum := "f59934d59e6f406268d4e0c45b2c38e76ce77a61dee07d00a757691517482ce3", func := "loop.example/g00711/laws.FnExactBlockOf", spec := "fnExactBlockOf", unfollowed := true, recurses := true, apart := false }
def FnExactBlockOfSaid : Prop := fnExactBlockOfRow.holds Try.pinned (OpenSpec.ofChange fnExactBlockOfSpec)

/-- ITS FALSE NEIGHBOUR: 'it returns false'. Refute it at one input. -/
def fnExactBlockOfWrong : ChangeSpec := { name := "fnExactBlockOf", fn := fun _ => fun
  | [d1, d2] => { results := [.lit (.bool false)], args := [d1, d2] }
  | _ => none }
def FnExactBlockOfWrongFalsely : Prop := fnExactBlockOfRow.holds Try.pinned (OpenSpec.ofChange fnExactBlockOfWrong)

/-- 'laws.FnExactReadImage': WHATEVER THE INPUT: true; the input reads as it did. -/
def fnExactReadImageSpec : ChangeSpec := { name := "fnExactReadImage", fn := fun _ => fun
  | [d] => { results := [.lit (.bool true)], args := [d] }
  | _ => none }
def fnExactReadImageRow : OpenClaim := { program := "ytmdjagnbbddnhaa", sum := "f59934d59e6f406268d4e0c45b2c38e76ce77a61dee07d00a757691517482ce3", func := "loop.example/g00711/laws.FnExactReadImage", spec := "fnExactReadImage", apart := false }
def FnExactReadImageSaid : Prop := fnExactReadImageRow.holds Try.pinned (OpenSpec.ofChange fnExactReadImageSpec)

/-- ITS FALSE NEIGHBOUR: 'it returns false'. Refute it at one input. -/
def fnExactReadImageWrong : ChangeSpec := { name := "fnExactReadImage", fn := fun _ => fun
  | [d] => { results := [.lit (.bool false)], args := [d] }
  | _ => none }
def FnExactReadImageWrongFalsely : Prop := fnExactReadImageRow.holds Try.pinned (OpenSpec.ofChange fnExactReadImageWrong)

/-- 'laws.FnExactUnpackOne': WHATEVER THE INPUT: true; the input reads as it did. -/
def fnExactUnpackOneSpec : ChangeSpec := { name := "fnExactUnpackOne", fn := fun _ => fun
  | [d] => { results := [.lit (.bool true)], args := [d] }
  | _ => none }
def fnExactUnpackOneRow : OpenClaim := { program := "ytmdjagnbbddnhaa", sum := "f59934d59e6f406268d4e0c45b2c38e76ce77a61dee07d00a757691517482ce3", func := "loop.example/g00711/laws.FnExactUnpackOne", spec := "fnExactUnpackOne", apart := false }
def FnExactUnpackOneSaid : Prop := fnExactUnpackOneRow.holds Try.pinned (OpenSpec.ofChange fnExactUnpackOneSpec)

/-- ITS FALSE NEIGHBOUR: 'it returns false'. Refute it at one input. -/
def fnExactUnpackOneWrong : ChangeSpec := { name := "fnExactUnpackOne", fn := fun _ => fun
  | [d] => { results := [.lit (.bool false)], args := [d] }
  | _ => none }
def FnExactUnpackOneWrongFalsely : Prop := fnExactUnpackOneRow.holds Try.pinned (OpenSpec.ofChange fnExactUnpackOneWrong)

/-- 'laws.FnExactPackOne': WHATEVER THE INPUT: true; the input reads as it did. -/
def fnExactPackOneSpec : ChangeSpec := { name := "fnExactPackOne", fn := fun _ => fun
  | [d] => { results := [.lit (.bool true)], args := [d] }
  | _ => none }
def fnExactPackOneRow : OpenClaim := { program := "ytmdjagnbbddnhaa", sum := "f59934d59e6f406268d4e0c45b2c38e76ce77a61dee07d00a757691517482ce3", func := "loop.example/g00711/laws.FnExactPackOne", spec := "fnExactPackOne", inPlace := ["internal/bytealg.IndexByteString"], apart := false }
def FnExactPackOneSaid : Prop := fnExactPackOneRow.holds Try.pinned (OpenSpec.ofChange fnExactPackOneSpec)

/-- ITS FALSE NEIGHBOUR: 'it returns false'. Refute it at one input. -/
def fnExactPackOneWrong : ChangeSpec := { name := "fnExactPackOne", fn := fun _ => fun
  | [d] => { results := [.lit (.bool false)], args := [d] }
  | _ => none }
def FnExactPackOneWrongFalsely : Prop := fnExactPackOneRow.holds Try.pinned (OpenSpec.ofChange fnExactPackOneWrong)

/-- 'laws.FnExactPutBlock': WHATEVER THE INPUT: true; the input reads as it did. -/
def fnExactPutBlockSpec : ChangeSpec := { name := "fnExactPutBlock", fn := fun _ => fun
  | [d1, d2, d3] => { results := [.lit (.bool true)], args := [d1, d2, d3] }
  | _ => none }
def fnExactPutBlockRow : OpenClaim := { program := "ytmdjagnbbddnhaa", sum := "f59934d59e6f406268d4e0c45b2c38e76ce77a61dee07d00a757691517482ce3", func := "loop.example/g00711/laws.FnExactPutBlock", spec := "fnExactPutBlock", unfollowed := true, recurses := true, apart := false }
def FnExactPutBlockSaid : Prop := fnExactPutBlockRow.holds Try.pinned (OpenSpec.ofChange fnExactPutBlockSpec)

/-- ITS FALSE NEIGHBOUR: 'it returns false'. Refute it at one input. -/
def fnExactPutBlockWrong : ChangeSpec := { name := "fnExactPutBlock", fn := fun _ => fun
  | [d1, d2, d3] => { results := [.lit (.bool false)], args := [d1, d2, d3] }
  | _ => none }
def FnExactPutBlockWrongFalsely : Prop := fnExactPutBlockRow.holds Try.pinned (OpenSpec.ofChange fnExactPutBlockWrong)

/-- 'laws.FnExactImageOf': WHATEVER THE INPUT: true; the input reads as it did. -/
def fnExactImageOfSpec : ChangeSpec := { name := "fnExactImageOf", fn := fun _ => fun
  | [d] => { results := [.lit (.bool true)], args := [d] }
  | _ => none }
def fnExactImageOfRow : OpenClaim := { program := "ytmdjagnbbddnhaa", sum := "f59934d59e6f406268d4e0c45b2c38e76ce77a61dee07d00a757691517482ce3", func := "loop.example/g00711/laws.FnExactImageOf", spec := "fnExactImageOf", apart := false }
def FnExactImageOfSaid : Prop := fnExactImageOfRow.holds Try.pinned (OpenSpec.ofChange fnExactImageOfSpec)

/-- ITS FALSE NEIGHBOUR: 'it returns false'. Refute it at one input. -/
def fnExactImageOfWrong : ChangeSpec := { name := "fnExactImageOf", fn := fun _ => fun
  | [d] => { results := [.lit (.bool false)], args := [d] }
  | _ => none }
def FnExactImageOfWrongFalsely : Prop := fnExactImageOfRow.holds Try.pinned (OpenSpec.ofChange fnExactImageOfWrong)

/-- 'laws.FnExactCopyBlock': WHATEVER THE INPUT: true; the input reads as it did. -/
def fnExactCopyBlockSpec : ChangeSpec := { name := "fnExactCopyBlock", fn := fun _ => fun
  | [d1, d2, d3] => { results := [.lit (.bool true)], args := [d1, d2, d3] }
  | _ => none }
def fnExactCopyBlockRow : OpenClaim := { program := "ytmdjagnbbddnhaa", sum := "f59934d59e6f406268d4e0c45b2c38e76ce77a61dee07d00a757691517482ce3", func := "loop.example/g00711/laws.FnExactCopyBlock", spec := "fnExactCopyBlock", unfollowed := true, recurses := true, apart := false }
def FnExactCopyBlockSaid : Prop := fnExactCopyBlockRow.holds Try.pinned (OpenSpec.ofChange fnExactCopyBlockSpec)

/-- ITS FALSE NEIGHBOUR: 'it returns false'. Refute it at one input. -/
def fnExactCopyBlockWrong : ChangeSpec := { name := "fnExactCopyBlock", fn := fun _ => fun
  | [d1, d2, d3] => { results := [.lit (.bool false)], args := [d1, d2, d3] }
  | _ => none }
def FnExactCopyBlockWrongFalsely : Prop := fnExactCopyBlockRow.holds Try.pinned (OpenSpec.ofChange fnExactCopyBlockWrong)

/-- 'laws.FnExactPack': WHATEVER THE INPUT: true; the input reads as it did. -/
def fnExactPackSpec : ChangeSpec := { name := "fnExactPack", fn := fun _ => fun
  | [d] => { results := [.lit (.bool true)], args := [d] }
  | _ => none }
def fnExactPackRow : OpenClaim := { program := "ytmdjagnbbddnhaa", sum := "f59934d59e6f406268d4e0c45b2c38e76ce77a61dee07d00a757691517482ce3", func := "loop.example/g00711/laws.FnExactPack", spec := "fnExactPack", inPlace := ["internal/bytealg.IndexByteString"], apart := false }
def FnExactPackSaid : Prop := fnExactPackRow.holds Try.pinned (OpenSpec.ofChange fnExactPackSpec)

/-- ITS FALSE NEIGHBOUR: 'it returns false'. Refute it at one input. -/
def fnExactPackWrong : ChangeSpec := { name := "fnExactPack", fn := fun _ => fun
  | [d] => { results := [.lit (.bool false)], args := [d] }
  | _ => none }
def FnExactPackWrongFalsely : Prop := fnExactPackRow.holds Try.pinned (OpenSpec.ofChange fnExactPackWrong)

/-- 'laws.FnPack': WHATEVER THE INPUT: true; the input reads as it did. -/
def fnPackSpec : ChangeSpec := { name := "fnPack", fn := fun _ => fun
  | [d] => { results := [.lit (.bool true)], args := [d] }
  | _ => none }
def fnPackRow : OpenClaim := { program := "ytmdjagnbbddnhaa", sum := "f59934d59e6f406268d4e0c45b2c38e76ce77a61dee07d00a757691517482ce3", func := "loop.example/g00711/laws.FnPack", spec := "fnPack", inPlace := ["internal/bytealg.IndexByteString"], apart := false }
def FnPackSaid : Prop := fnPackRow.holds Try.pinned (OpenSpec.ofChange fnPackSpec)

/-- ITS FALSE NEIGHBOUR: 'it returns false'. Refute it at one input. -/
def fnPackWrong : ChangeSpec := { name := "fnPack", fn := fun _ => fun
  | [d] => { results := [.lit (.bool false)], args := [d] }
  | _ => none }
def FnPackWrongFalsely : Prop := fnPackRow.holds Try.pinned (OpenSpec.ofChange fnPackWrong)

/- THE SECOND FORM. 'bulk': how many values and letters a reading holds, each counted each time it is reached (what is shared counts as often as it is met; a slice's spare places count too). A statement '..UptoSaid' is the law's where the arguments, and the package variables that the reading takes, are together of bulk at most 1048576: NARROWER than '..Said'. Prove '..Said' where nothing that the law and all that it calls make is longer than what came in: it says more and counts as full. Else prove '..UptoSaid'. A law counts once. -/
mutual
def uptoBulk {H : Type} : DataW H → Nat
  | .lit (.string bytes) => bytes.length + 1
  | .lit _ => 1
  | .nil => 1
  | .ptr d => uptoBulk d + 1
  | .slice elems spare => uptoBulkAll elems + uptoBulkAll spare + 1
  | .agg parts => uptoBulkAll parts + 1
  | .iface _ d => uptoBulk d + 1
  | .map entries => uptoBulkEntries entries + 1
  | .held _ => 1
def uptoBulkAll {H : Type} : List (DataW H) → Nat
  | [] => 0
  | d :: r => uptoBulk d + uptoBulkAll r
def uptoBulkEntries {H : Type} : List (Lit × DataW H) → Nat
  | [] => 0
  | x :: r => uptoBulkEntry x + uptoBulkEntries r
def uptoBulkEntry {H : Type} : Lit × DataW H → Nat
  | (.string bytes, d) => bytes.length + uptoBulk d + 1
  | (_, d) => uptoBulk d + 1
 end
def uptoSmall : (H : Type) → List (DataW H) → Bool := fun _ ds => decide (uptoBulkAll ds ≤ 1048576)
def OpenSpec.upto (s : _root_.Go.ChangeSpec) : _root_.Go.OpenSpec := { _root_.Go.OpenSpec.ofChange s with cond := some uptoSmall }

/-- 'laws.FnLetters', WHERE WHAT IT READS IS OF BULK AT MOST 1048576: true; the input reads as it did. -/
def fnLettersUptoRow : OpenClaim := { program := "ytmdjagnbbddnhaa", sum := "f59934d59e6f406268d4e0c45b2c38e76ce77a61dee07d00a757691517482ce3", func := "loop.example/g00711/laws.FnLetters", spec := "fnLetters", inPlace := ["internal/bytealg.IndexByteString"], apart := false, narrowed := true }
def FnLettersUptoSaid : Prop := fnLettersUptoRow.holds Try.pinned (OpenSpec.upto fnLettersSpec)

/-- 'laws.FnExactBlockOf', WHERE WHAT IT READS IS OF BULK AT MOST 1048576: true; the input reads as it did. -/
def fnExactBlockOfUptoRow : OpenClaim := { program := "ytmdjagnbbddnhaa", sum := "f59934d59e6f406268d4e0c45b2c38e76ce77a61dee07d00a757691517482ce3", func := "loop.example/g00711/laws.FnExactBlockOf", spec := "fnExactBlockOf", unfollowed := true, recurses := true, apart := false, narrowed := true }
def FnExactBlockOfUptoSaid : Prop := fnExactBlockOfUptoRow.holds Try.pinned (OpenSpec.upto fnExactBlockOfSpec)

/-- 'laws.FnExactReadImage', WHERE WHAT IT READS IS OF BULK AT MOST 1048576: true; the input reads as it did. -/
def fnExactReadImageUptoRow : OpenClaim := { program := "ytmdjagnbbddnhaa", sum := "f59934d59e6f406268d4e0c45b2c38e76ce77a61dee07d00a757691517482ce3", func := "loop.example/g00711/laws.FnExactReadImage", spec := "fnExactReadImage", apart := false, narrowed := true }
def FnExactReadImageUptoSaid : Prop := fnExactReadImageUptoRow.holds Try.pinned (OpenSpec.upto fnExactReadImageSpec)

/-- 'laws.FnExactUnpackOne', WHERE WHAT IT READS IS OF BULK AT MOST 1048576: true; the input reads as it did. -/
def fnExactUnpackOneUptoRow : OpenClaim := { program := "ytmdjagnbbddnhaa", sum := "f59934d59e6f406268d4e0c45b2c38e76ce77a61dee07d00a757691517482ce3", func := "loop.example/g00711/laws.FnExactUnpackOne", spec := "fnExactUnpackOne", apart := false, narrowed := true }
def FnExactUnpackOneUptoSaid : Prop := fnExactUnpackOneUptoRow.holds Try.pinned (OpenSpec.upto fnExactUnpackOneSpec)

/-- 'laws.FnExactPackOne', WHERE WHAT IT READS IS OF BULK AT MOST 1048576: true; the input reads as it did. -/
def fnExactPackOneUptoRow : OpenClaim := { program := "ytmdjagnbbddnhaa", sum := "f59934d59e6f406268d4e0c45b2c38e76ce77a61dee07d00a757691517482ce3", func := "loop.example/g00711/laws.FnExactPackOne", spec := "fnExactPackOne", inPlace := ["internal/bytealg.IndexByteString"], apart := false, narrowed := true }
def FnExactPackOneUptoSaid : Prop := fnExactPackOneUptoRow.holds Try.pinned (OpenSpec.upto fnExactPackOneSpec)

/-- 'laws.FnExactPutBlock', WHERE WHAT IT READS IS OF BULK AT MOST 1048576: true; the input reads as it did. -/
def fnExactPutBlockUptoRow : OpenClaim := { program := "ytmdjagnbbddnhaa", sum := "f59934d59e6f406268d4e0c45b2c38e76ce77a61dee07d00a757691517482ce3", func := "loop.example/g00711/laws.FnExactPutBlock", spec := "fnExactPutBlock", unfollowed := true, recurses := true, apart := false, narrowed := true }
def FnExactPutBlockUptoSaid : Prop := fnExactPutBlockUptoRow.holds Try.pinned (OpenSpec.upto fnExactPutBlockSpec)

/-- 'laws.FnExactImageOf', WHERE WHAT IT READS IS OF BULK AT MOST 1048576: true; the input reads as it did. -/
def fnExactImageOfUptoRow : OpenClaim := { program := "ytmdjagnbbddnhaa", sum := "f59934d59e6f406268d4e0c45b2c38e76ce77a61dee07d00a757691517482ce3", func := "loop.example/g00711/laws.FnExactImageOf", spec := "fnExactImageOf", apart := false, narrowed := true }
def FnExactImageOfUptoSaid : Prop := fnExactImageOfUptoRow.holds Try.pinned (OpenSpec.upto fnExactImageOfSpec)

/-- 'laws.FnExactCopyBlock', WHERE WHAT IT READS IS OF BULK AT MOST 1048576: true; the input reads as it did. -/
def fnExactCopyBlockUptoRow : OpenClaim := { program := "ytmdjagnbbddnhaa", sum := "f59934d59e6f406268d4e0c45b2c38e76ce77a61dee07d00a757691517482ce3", func := "loop.example/g00711/laws.FnExactCopyBlock", spec := "fnExactCopyBlock", unfollowed := true, recurses := true, apart := false, narrowed := true }
def FnExactCopyBlockUptoSaid : Prop := fnExactCopyBlockUptoRow.holds Try.pinned (OpenSpec.upto fnExactCopyBlockSpec)

/-- 'laws.FnExactPack', WHERE WHAT IT READS IS OF BULK AT MOST 1048576: true; the input reads as it did. -/
def fnExactPackUptoRow : OpenClaim := { program := "ytmdjagnbbddnhaa", sum := "f59934d59e6f406268d4e0c45b2c38e76ce77a61dee07d00a757691517482ce3", func := "loop.example/g00711/laws.FnExactPack", spec := "fnExactPack", inPlace := ["internal/bytealg.IndexByteString"], apart := false, narrowed := true }
def FnExactPackUptoSaid : Prop := fnExactPackUptoRow.holds Try.pinned (OpenSpec.upto fnExactPackSpec)

/-- 'laws.FnPack', WHERE WHAT IT READS IS OF BULK AT MOST 1048576: true; the input reads as it did. -/
def fnPackUptoRow : OpenClaim := { program := "ytmdjagnbbddnhaa", sum := "f59934d59e6f406268d4e0c45b2c38e76ce77a61dee07d00a757691517482ce3", func := "loop.example/g00711/laws.FnPack", spec := "fnPack", inPlace := ["internal/bytealg.IndexByteString"], apart := false, narrowed := true }
def FnPackUptoSaid : Prop := fnPackUptoRow.holds Try.pinned (OpenSpec.upto fnPackSpec)

end Rows
end Go.Proofs.Ytmdjagnbbddnhaa
