/-
  No cell of these rows narrows 'for every input' (looked for: loops, veiled, ifaces, maps, wideKeys, modest, calm, conditions, laid).
  DERIVED. THE GIVEN ROWS OF THIS SEAT. 6 by the template 'for every input the law returns true; each argument reads behind the call as it read before'; 0 by the template 'total and deterministic' (their statements: YtcnbeijlcndjpaaTotals.lean).
  GIVEN WITH THE SEED: the statements are not yours to turn. If you find one false, say at which input.
  Laid BY PROGRAM, IN A SANDBOX (cutbox-rows.mjs): the forced cells as the released guide's own fill.sh prints them over the translation 2bca162cc15cc838… (all of the seat's roots in one cut). By AI agents, Wed Nov 11 2026. No macro, syntax, notation, axiom, sorry.
-/
import Derived.Test.YtcnbeijlcndjpaaChecked
import GoSem.Claim
import GoSem.ClaimJoined
import GoSem.ClaimMapViews
import Derived.JoinedTies
import Derived.KernelRfl
namespace Go.Proofs.Ytcnbeijlcndjpaa
/- THE CELL 'sum', in the pinned program and in every row, IS THE sha256 OF THE DUMP (.gsa) THAT YtcnbeijlcndjpaaProg.lean LOADS. Nothing in Lean hashes anything: it is a label: what it is worth is what the hold of that sum in a sandbox is worth. -/
noncomputable def Try.pinned : Pinned := { name := "ytcnbeijlcndjpaa", sum := "2bca162cc15cc838c7a8428abf3a528c78a66d927b97bd31f25cf49348b1fa14", checked := Try.checked }
namespace Rows
def none {H : Type} : Left H := { results := [], args := [] }

/-- 'footmanlaw08.FheadPuts': WHATEVER THE INPUT: true; the input reads as it did. -/
def fheadPutsSpec : ChangeSpec := { name := "fheadPuts", fn := fun _ => fun
  | [d] => { results := [.lit (.bool true)], args := [d] }
  | _ => none }
def fheadPutsRow : OpenClaim := { program := "ytcnbeijlcndjpaa", sum := "2bca162cc15cc838c7a8428abf3a528c78a66d927b97bd31f25cf49348b1fa14", func := "footman/footmanlaw08.FheadPuts", spec := "fheadPuts", apart := false }
def FheadPutsSaid : Prop := fheadPutsRow.holds Try.pinned (OpenSpec.ofChange fheadPutsSpec)

/-- ITS FALSE NEIGHBOUR: 'it returns false'. Refute it at one input. -/
def fheadPutsWrong : ChangeSpec := { name := "fheadPuts", fn := fun _ => fun
  | [d] => { results := [.lit (.bool false)], args := [d] }
  | _ => none }
def FheadPutsWrongFalsely : Prop := fheadPutsRow.holds Try.pinned (OpenSpec.ofChange fheadPutsWrong)

/-- 'footmanlaw08.FheadGets': WHATEVER THE INPUT: true; the input reads as it did. -/
def fheadGetsSpec : ChangeSpec := { name := "fheadGets", fn := fun _ => fun
  | [d1, d2] => { results := [.lit (.bool true)], args := [d1, d2] }
  | _ => none }
def fheadGetsRow : OpenClaim := { program := "ytcnbeijlcndjpaa", sum := "2bca162cc15cc838c7a8428abf3a528c78a66d927b97bd31f25cf49348b1fa14", func := "footman/footmanlaw08.FheadGets", spec := "fheadGets", apart := false }
def FheadGetsSaid : Prop := fheadGetsRow.holds Try.pinned (OpenSpec.ofChange fheadGetsSpec)

/-- ITS FALSE NEIGHBOUR: 'it returns false'. Refute it at one input. -/
def fheadGetsWrong : ChangeSpec := { name := "fheadGets", fn := fun _ => fun
  | [d1, d2] => { results := [.lit (.bool false)], args := [d1, d2] }
  | _ => none }
def FheadGetsWrongFalsely : Prop := fheadGetsRow.holds Try.pinned (OpenSpec.ofChange fheadGetsWrong)

/-- 'footmanlaw08.FheadBack': WHATEVER THE INPUT: true; the input reads as it did. -/
def fheadBackSpec : ChangeSpec := { name := "fheadBack", fn := fun _ => fun
  | [d1, d2] => { results := [.lit (.bool true)], args := [d1, d2] }
  | _ => none }
def fheadBackRow : OpenClaim := { program := "ytcnbeijlcndjpaa", sum := "2bca162cc15cc838c7a8428abf3a528c78a66d927b97bd31f25cf49348b1fa14", func := "footman/footmanlaw08.FheadBack", spec := "fheadBack", apart := false }
def FheadBackSaid : Prop := fheadBackRow.holds Try.pinned (OpenSpec.ofChange fheadBackSpec)

/-- ITS FALSE NEIGHBOUR: 'it returns false'. Refute it at one input. -/
def fheadBackWrong : ChangeSpec := { name := "fheadBack", fn := fun _ => fun
  | [d1, d2] => { results := [.lit (.bool false)], args := [d1, d2] }
  | _ => none }
def FheadBackWrongFalsely : Prop := fheadBackRow.holds Try.pinned (OpenSpec.ofChange fheadBackWrong)

/-- 'footmanlaw10.SplitFeeds': WHATEVER THE INPUT: true; the input reads as it did. -/
def splitFeedsSpec : ChangeSpec := { name := "splitFeeds", fn := fun _ => fun
  | [d1, d2] => { results := [.lit (.bool true)], args := [d1, d2] }
  | _ => none }
def splitFeedsRow : OpenClaim := { program := "ytcnbeijlcndjpaa", sum := "2bca162cc15cc838c7a8428abf3a528c78a66d927b97bd31f25cf49348b1fa14", func := "footman/footmanlaw10.SplitFeeds", spec := "splitFeeds", apart := false }
def SplitFeedsSaid : Prop := splitFeedsRow.holds Try.pinned (OpenSpec.ofChange splitFeedsSpec)

/-- ITS FALSE NEIGHBOUR: 'it returns false'. Refute it at one input. -/
def splitFeedsWrong : ChangeSpec := { name := "splitFeeds", fn := fun _ => fun
  | [d1, d2] => { results := [.lit (.bool false)], args := [d1, d2] }
  | _ => none }
def SplitFeedsWrongFalsely : Prop := splitFeedsRow.holds Try.pinned (OpenSpec.ofChange splitFeedsWrong)

/-- 'footmanlaw10.SplitPieces': WHATEVER THE INPUT: true; the input reads as it did. -/
def splitPiecesSpec : ChangeSpec := { name := "splitPieces", fn := fun _ => fun
  | [d1, d2, d3] => { results := [.lit (.bool true)], args := [d1, d2, d3] }
  | _ => none }
def splitPiecesRow : OpenClaim := { program := "ytcnbeijlcndjpaa", sum := "2bca162cc15cc838c7a8428abf3a528c78a66d927b97bd31f25cf49348b1fa14", func := "footman/footmanlaw10.SplitPieces", spec := "splitPieces", apart := false }
def SplitPiecesSaid : Prop := splitPiecesRow.holds Try.pinned (OpenSpec.ofChange splitPiecesSpec)

/-- ITS FALSE NEIGHBOUR: 'it returns false'. Refute it at one input. -/
def splitPiecesWrong : ChangeSpec := { name := "splitPieces", fn := fun _ => fun
  | [d1, d2, d3] => { results := [.lit (.bool false)], args := [d1, d2, d3] }
  | _ => none }
def SplitPiecesWrongFalsely : Prop := splitPiecesRow.holds Try.pinned (OpenSpec.ofChange splitPiecesWrong)

/-- 'footmanlaw10.SplitBack': WHATEVER THE INPUT: true; the input reads as it did. -/
def splitBackSpec : ChangeSpec := { name := "splitBack", fn := fun _ => fun
  | [d1, d2, d3] => { results := [.lit (.bool true)], args := [d1, d2, d3] }
  | _ => none }
def splitBackRow : OpenClaim := { program := "ytcnbeijlcndjpaa", sum := "2bca162cc15cc838c7a8428abf3a528c78a66d927b97bd31f25cf49348b1fa14", func := "footman/footmanlaw10.SplitBack", spec := "splitBack", apart := false }
def SplitBackSaid : Prop := splitBackRow.holds Try.pinned (OpenSpec.ofChange splitBackSpec)

/-- ITS FALSE NEIGHBOUR: 'it returns false'. Refute it at one input. -/
def splitBackWrong : ChangeSpec := { name := "splitBack", fn := fun _ => fun
  | [d1, d2, d3] => { results := [.lit (.bool false)], args := [d1, d2, d3] }
  | _ => none }
def SplitBackWrongFalsely : Prop := splitBackRow.holds Try.pinned (OpenSpec.ofChange splitBackWrong)

/- THE SECOND FORM. 'bulk': how many values and letters a reading holds, each counted each time it is reached (what is shared counts as often as it is met; a slice's spare places count too). A statement '..UptoSaid' is the law's where the arguments, and the package variables that the reading takes, are together of bulk at most 1048576: NARROWER than '..Said'. Prove '..Said' where nothing that the law and all that it calls make is longer than what came in: it says more and counts as full. Else prove '..UptoSaid'. A law counts once. -/
mutual
def uptoBulk {H : Type} : DataW H → Nat
  | .lit (.string bytes) => bytes.length + 1
  | .lit _ => 1
  | .nil => 1
  | .ptr d => uptoBulk d + 1
  | .slice elems spare => uptoBulkAll elems + uptoBulkAll spare + 1
  | .agg parts => uptoBulkAll parts + 1
  | .iface _ d => uptoBulk d + 1
  | .map entries => uptoBulkEntries entries + 1
  | .held _ => 1
def uptoBulkAll {H : Type} : List (DataW H) → Nat
  | [] => 0
  | d :: r => uptoBulk d + uptoBulkAll r
def uptoBulkEntries {H : Type} : List (Lit × DataW H) → Nat
  | [] => 0
  | x :: r => uptoBulkEntry x + uptoBulkEntries r
def uptoBulkEntry {H : Type} : Lit × DataW H → Nat
  | (.string bytes, d) => bytes.length + uptoBulk d + 1
  | (_, d) => uptoBulk d + 1
 end
def uptoSmall : (H : Type) → List (DataW H) → Bool := fun _ ds => decide (uptoBulkAll ds ≤ 1048576)
def OpenSpec.upto (s : _root_.Go.ChangeSpec) : _root_.Go.OpenSpec := { _root_.Go.OpenSpec.ofChange s with cond := some uptoSmall }

/-- 'footmanlaw08.FheadPuts', WHERE WHAT IT READS IS OF BULK AT MOST 1048576: true; the input reads as it did. -/
def fheadPutsUptoRow : OpenClaim := { program := "ytcnbeijlcndjpaa", sum := "2bca162cc15cc838c7a8428abf3a528c78a66d927b97bd31f25cf49348b1fa14", func := "footman/footmanlaw08.FheadPuts", spec := "fheadPuts", apart := false, narrowed := true }
def FheadPutsUptoSaid : Prop := fheadPutsUptoRow.holds Try.pinned (OpenSpec.upto fheadPutsSpec)

/-- 'footmanlaw08.FheadGets', WHERE WHAT IT READS IS OF BULK AT MOST 1048576: true; the input reads as it did. -/
def fheadGetsUptoRow : OpenClaim := { program := "ytcnbeijlcndjpaa", sum := "2bca162cc15cc838c7a8428abf3a528c78a66d927b97bd31f25cf49348b1fa14", func := "footman/footmanlaw08.FheadGets", spec := "fheadGets", apart := false, narrowed := true }
def FheadGetsUptoSaid : Prop := fheadGetsUptoRow.holds Try.pinned (OpenSpec.upto fheadGetsSpec)

/-- 'footmanlaw08.FheadBack', WHERE WHAT IT READS IS OF BULK AT MOST 1048576: true; the input reads as it did. -/
def fheadBackUptoRow : OpenClaim := { program := "ytcnbeijlcndjpaa", sum := "2bca162cc15cc838c7a8428abf3a528c78a66d927b97bd31f25cf49348b1fa14", func := "footman/footmanlaw08.FheadBack", spec := "fheadBack", apart := false, narrowed := true }
def FheadBackUptoSaid : Prop := fheadBackUptoRow.holds Try.pinned (OpenSpec.upto fheadBackSpec)

/-- 'footmanlaw10.SplitFeeds', WHERE WHAT IT READS IS OF BULK AT MOST 1048576: true; the input reads as it did. -/
def splitFeedsUptoRow : OpenClaim := { program := "ytcnbeijlcndjpaa", sum := "2bca162cc15cc838c7a8428abf3a528c78a66d927b97bd31f25cf49348b1fa14", func := "footman/footmanlaw10.SplitFeeds", spec := "splitFeeds", apart := false, narrowed := true }
def SplitFeedsUptoSaid : Prop := splitFeedsUptoRow.holds Try.pinned (OpenSpec.upto splitFeedsSpec)

/-- 'footmanlaw10.SplitPieces', WHERE WHAT IT READS IS OF BULK AT MOST 1048576: true; the input reads as it did. -/
def splitPiecesUptoRow : OpenClaim := { program := "ytcnbeijlcndjpaa", sum := "2bca162cc15cc838c7a8428abf3a528c78a66d927b97bd31f25cf49348b1fa14", func := "footman/footmanlaw10.SplitPieces", spec := "splitPieces", apart := false, narrowed := true }
def SplitPiecesUptoSaid : Prop := splitPiecesUptoRow.holds Try.pinned (OpenSpec.upto splitPiecesSpec)

/-- 'footmanlaw10.SplitBack', WHERE WHAT IT READS IS OF BULK AT MOST 1048576: true; the input reads as it did. -/
def splitBackUptoRow : OpenClaim := { program := "ytcnbeijlcndjpaa", sum := "2bca162cc15cc838c7a8428abf3a528c78a66d927b97bd31f25cf49348b1fa14", func := "footman/footmanlaw10.SplitBack", spec := "splitBack", apart := false, narrowed := true }
def SplitBackUptoSaid : Prop := splitBackUptoRow.holds Try.pinned (OpenSpec.upto splitBackSpec)

end Rows
end Go.Proofs.Ytcnbeijlcndjpaa
