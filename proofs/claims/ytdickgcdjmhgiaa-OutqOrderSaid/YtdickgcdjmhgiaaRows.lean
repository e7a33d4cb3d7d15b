/-
  No cell of these rows narrows 'for every input' (looked for: loops, veiled, ifaces, maps, wideKeys, modest, calm, conditions, laid).
  DERIVED. THE GIVEN ROWS OF THIS SEAT. 4 by the template 'for every input the law returns true; each argument reads behind the call as it read before'; 0 by the template 'total and deterministic' (their statements: YtdickgcdjmhgiaaTotals.lean).
  GIVEN WITH THE SEED: the statements are not yours to turn. If you find one false, say at which input.
  Laid BY PROGRAM, IN A SANDBOX (cutbox-rows.mjs): the forced cells as the released guide's own fill.sh prints them over the translation 9980985be12572be… (all of the seat's roots in one cut). By AI agents, Wed Nov 11 2026. No macro, syntax, notation, axiom, sorry.
-/
import Derived.Test.YtdickgcdjmhgiaaChecked
import GoSem.Claim
import GoSem.ClaimJoined
import GoSem.ClaimMapViews
import Derived.JoinedTies
import Derived.KernelRfl
namespace Go.Proofs.Ytdickgcdjmhgiaa
/- THE CELL 'sum', in the pinned program and in every row, IS THE sha256 OF THE DUMP (.gsa) THAT YtdickgcdjmhgiaaProg.lean LOADS. Nothing in Lean hashes anything: it is a label: what it is worth is what the hold of that sum in a sandbox is worth. -/
noncomputable def Try.pinned : Pinned := { name := "ytdickgcdjmhgiaa", sum := "9980985be12572be440bc70630be647af348f61dddd4a8f1e6647ea144ef0a00", checked := Try.checked }
namespace Rows
def none {H : Type} : Left H := { results := [], args := [] }

/-- 'footmanlaw19.OutqChanges': WHATEVER THE INPUT: true; the input reads as it did. -/
def outqChangesSpec : ChangeSpec := { name := "outqChanges", fn := fun _ => fun
  | [d1, d2, d3] => { results := [.lit (.bool true)], args := [d1, d2, d3] }
  | _ => none }
def outqChangesRow : OpenClaim := { program := "ytdickgcdjmhgiaa", sum := "9980985be12572be440bc70630be647af348f61dddd4a8f1e6647ea144ef0a00", func := "footman/footmanlaw19.OutqChanges", spec := "outqChanges", apart := false }
def OutqChangesSaid : Prop := outqChangesRow.holds Try.pinned (OpenSpec.ofChange outqChangesSpec)

/-- ITS FALSE NEIGHBOUR: 'it returns false'. Refute it at one input. -/
def outqChangesWrong : ChangeSpec := { name := "outqChanges", fn := fun _ => fun
  | [d1, d2, d3] => { results := [.lit (.bool false)], args := [d1, d2, d3] }
  | _ => none }
def OutqChangesWrongFalsely : Prop := outqChangesRow.holds Try.pinned (OpenSpec.ofChange outqChangesWrong)

/-- 'footmanlaw19.OutqTells': WHATEVER THE INPUT: true; the input reads as it did. -/
def outqTellsSpec : ChangeSpec := { name := "outqTells", fn := fun _ => fun
  | [d1, d2] => { results := [.lit (.bool true)], args := [d1, d2] }
  | _ => none }
def outqTellsRow : OpenClaim := { program := "ytdickgcdjmhgiaa", sum := "9980985be12572be440bc70630be647af348f61dddd4a8f1e6647ea144ef0a00", func := "footman/footmanlaw19.OutqTells", spec := "outqTells", apart := false }
def OutqTellsSaid : Prop := outqTellsRow.holds Try.pinned (OpenSpec.ofChange outqTellsSpec)

/-- ITS FALSE NEIGHBOUR: 'it returns false'. Refute it at one input. -/
def outqTellsWrong : ChangeSpec := { name := "outqTells", fn := fun _ => fun
  | [d1, d2] => { results := [.lit (.bool false)], args := [d1, d2] }
  | _ => none }
def OutqTellsWrongFalsely : Prop := outqTellsRow.holds Try.pinned (OpenSpec.ofChange outqTellsWrong)

/-- 'footmanlaw19.OutqOrder': WHATEVER THE INPUT: true; the input reads as it did. -/
def outqOrderSpec : ChangeSpec := { name := "outqOrder", fn := fun _ => fun
  | [d1, d2] => { results := [.lit (.bool true)], args := [d1, d2] }
  | _ => none }
def outqOrderRow : OpenClaim := { program := "ytdickgcdjmhgiaa", sum := "9980985be12572be440bc70630be647af348f61dddd4a8f1e6647ea144ef0a00", func := "footman/footmanlaw19.OutqOrder", spec := "outqOrder", apart := false }
def OutqOrderSaid : Prop := outqOrderRow.holds Try.pinned (OpenSpec.ofChange outqOrderSpec)

/-- ITS FALSE NEIGHBOUR: 'it returns false'. Refute it at one input. -/
def outqOrderWrong : ChangeSpec := { name := "outqOrder", fn := fun _ => fun
  | [d1, d2] => { results := [.lit (.bool false)], args := [d1, d2] }
  | _ => none }
def OutqOrderWrongFalsely : Prop := outqOrderRow.holds Try.pinned (OpenSpec.ofChange outqOrderWrong)

/-- 'footmanlaw19.OutqCut': WHATEVER THE INPUT: true; the input reads as it did. -/
def outqCutSpec : ChangeSpec := { name := "outqCut", fn := fun _ => fun
  | [d1, d2, d3] => { results := [.lit (.bool true)], args := [d1, d2, d3] }
  | _ => none }
def outqCutRow : OpenClaim := { program := "ytdickgcdjmhgiaa", sum := "9980985be12572be440bc70630be647af348f61dddd4a8f1e6647ea144ef0a00", func := "footman/footmanlaw19.OutqCut", spec := "outqCut", apart := false }
def OutqCutSaid : Prop := outqCutRow.holds Try.pinned (OpenSpec.ofChange outqCutSpec)

/-- ITS FALSE NEIGHBOUR: 'it returns false'. Refute it at one input. -/
def outqCutWrong : ChangeSpec := { name := "outqCut", fn := fun _ => fun
  | [d1, d2, d3] => { results := [.lit (.bool false)], args := [d1, d2, d3] }
  | _ => none }
def OutqCutWrongFalsely : Prop := outqCutRow.holds Try.pinned (OpenSpec.ofChange outqCutWrong)

/- THE SECOND FORM. 'bulk': how many values and letters a reading holds, each counted each time it is reached (what is shared counts as often as it is met; a slice's spare places count too). A statement '..UptoSaid' is the law's where the arguments, and the package variables that the reading takes, are together of bulk at most 1048576: NARROWER than '..Said'. Prove '..Said' where nothing that the law and all that it calls make is longer than what came in: it says more and counts as full. Else prove '..UptoSaid'. A law counts once. -/
mutual
def uptoBulk {H : Type} : DataW H → Nat
  | .lit (.string bytes) => bytes.length + 1
  | .lit _ => 1
  | .nil => 1
  | .ptr d => uptoBulk d + 1
  | .slice elems spare => uptoBulkAll elems + uptoBulkAll spare + 1
  | .agg parts => uptoBulkAll parts + 1
  | .iface _ d => uptoBulk d + 1
  | .map entries => uptoBulkEntries entries + 1
  | .held _ => 1
def uptoBulkAll {H : Type} : List (DataW H) → Nat
  | [] => 0
  | d :: r => uptoBulk d + uptoBulkAll r
def uptoBulkEntries {H : Type} : List (Lit × DataW H) → Nat
  | [] => 0
  | x :: r => uptoBulkEntry x + uptoBulkEntries r
def uptoBulkEntry {H : Type} : Lit × DataW H → Nat
  | (.string bytes, d) => bytes.length + uptoBulk d + 1
  | (_, d) => uptoBulk d + 1
 end
def uptoSmall : (H : Type) → List (DataW H) → Bool := fun _ ds => decide (uptoBulkAll ds ≤ 1048576)
def OpenSpec.upto (s : _root_.Go.ChangeSpec) : _root_.Go.OpenSpec := { _root_.Go.OpenSpec.ofChange s with cond := some uptoSmall }

/-- 'footmanlaw19.OutqChanges', WHERE WHAT IT READS IS OF BULK AT MOST 1048576: true; the input reads as it did. -/
def outqChangesUptoRow : OpenClaim := { program := "ytdickgcdjmhgiaa", sum := "9980985be12572be440bc70630be647af348f61dddd4a8f1e6647ea144ef0a00", func := "footman/footmanlaw19.OutqChanges", spec := "outqChanges", apart := false, narrowed := true }
def OutqChangesUptoSaid : Prop := outqChangesUptoRow.holds Try.pinned (OpenSpec.upto outqChangesSpec)

/-- 'footmanlaw19.OutqTells', WHERE WHAT IT READS IS OF BULK AT MOST 1048576: true; the input reads as it did. -/
def outqTellsUptoRow : OpenClaim := { program := "ytdickgcdjmhgiaa", sum := "9980985be12572be440bc70630be647af348f61dddd4a8f1e6647ea144ef0a00", func := "footman/footmanlaw19.OutqTells", spec := "outqTells", apart := false, narrowed := true }
def OutqTellsUptoSaid : Prop := outqTellsUptoRow.holds Try.pinned (OpenSpec.upto outqTellsSpec)

/-- 'footmanlaw19.OutqOrder', WHERE WHAT IT READS IS OF BULK AT MOST 1048576: true; the input reads as it did. -/
def outqOrderUptoRow : OpenClaim := { program := "ytdickgcdjmhgiaa", sum := "9980985be12572be440bc70630be647af348f61dddd4a8f1e6647ea144ef0a00", func := "footman/footmanlaw19.OutqOrder", spec := "outqOrder", apart := false, narrowed := true }
def OutqOrderUptoSaid : Prop := outqOrderUptoRow.holds Try.pinned (OpenSpec.upto outqOrderSpec)

/-- 'footmanlaw19.OutqCut', WHERE WHAT IT READS IS OF BULK AT MOST 1048576: true; the input reads as it did. -/
def outqCutUptoRow : OpenClaim := { program := "ytdickgcdjmhgiaa", sum := "9980985be12572be440bc70630be647af348f61dddd4a8f1e6647ea144ef0a00", func := "footman/footmanlaw19.OutqCut", spec := "outqCut", apart := false, narrowed := true }
def OutqCutUptoSaid : Prop := outqCutUptoRow.holds Try.pinned (OpenSpec.upto outqCutSpec)

end Rows
end Go.Proofs.Ytdickgcdjmhgiaa
