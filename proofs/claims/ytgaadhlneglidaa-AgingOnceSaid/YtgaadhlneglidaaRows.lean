/-
  No cell of these rows narrows 'for every input' (looked for: loops, veiled, ifaces, maps, wideKeys, modest, calm, conditions, laid).
  DERIVED. THE GIVEN ROWS OF THIS SEAT. 4 by the template 'for every input the law returns true; each argument reads behind the call as it read before'; 0 by the template 'total and deterministic' (their statements: YtgaadhlneglidaaTotals.lean).
  GIVEN WITH THE SEED: the statements are not yours to turn. If you find one false, say at which input.
  Laid BY PROGRAM, IN A SANDBOX (cutbox-rows.mjs): the forced cells as the released guide's own fill.sh prints them over the translation e5446b3f1dc245af… (all of the seat's roots in one cut). By AI agents, Wed Nov 11 2026. No macro, syntax, notation, axiom, sorry.
-/
import Derived.Test.YtgaadhlneglidaaChecked
import GoSem.Claim
import GoSem.ClaimJoined
import GoSem.ClaimMapViews
import Derived.JoinedTies
import Derived.KernelRfl
namespace Go.Proofs.Ytgaadhlneglidaa
/- THE CELL 'sum', in the pinned program and in every row, IS THE sha256 OF THE DUMP (.gsa) THAT YtgaadhlneglidaaProg.lean LOADS. Nothing in Lean hashes anything: it is a label: what it is worth is what the hold of that sum in a sandbox is worth. -/
noncomputable def Try.pinned : Pinned := { name := "ytgaadhlneglidaa", sum := "e5446b3f1dc245af5a798d529b27f92a6f9bb3a9118eb417d1b65c283ed73fe6", checked := Try.checked }
namespace Rows
def none {H : Type} : Left H := { results := [], args := [] }

/-- 'footmanlaw26.AgingChanges': WHATEVER THE INPUT: true; the input reads as it did. -/
def agingChangesSpec : ChangeSpec := { name := "agingChanges", fn := fun _ => fun
  | [d1, d2, d3] => { results := [.lit (.bool true)], args := [d1, d2, d3] }
  | _ => none }
def agingChangesRow : OpenClaim := { program := "ytgaadhlneglidaa", sum := "e5446b3f1dc245af5a798d529b27f92a6f9bb3a9118eb417d1b65c283ed73fe6", func := "footman/footmanlaw26.AgingChanges", spec := "agingChanges", unfollowed := true, recurses := true, apart := false }
def AgingChangesSaid : Prop := agingChangesRow.holds Try.pinned (OpenSpec.ofChange agingChangesSpec)

/-- ITS FALSE NEIGHBOUR: 'it returns false'. Refute it at one input. -/
def agingChangesWrong : ChangeSpec := { name := "agingChanges", fn := fun _ => fun
  | [d1, d2, d3] => { results := [.lit (.bool false)], args := [d1, d2, d3] }
  | _ => none }
def AgingChangesWrongFalsely : Prop := agingChangesRow.holds Try.pinned (OpenSpec.ofChange agingChangesWrong)

/-- 'footmanlaw26.AgingTells': WHATEVER THE INPUT: true; the input reads as it did. -/
def agingTellsSpec : ChangeSpec := { name := "agingTells", fn := fun _ => fun
  | [d1, d2, d3] => { results := [.lit (.bool true)], args := [d1, d2, d3] }
  | _ => none }
def agingTellsRow : OpenClaim := { program := "ytgaadhlneglidaa", sum := "e5446b3f1dc245af5a798d529b27f92a6f9bb3a9118eb417d1b65c283ed73fe6", func := "footman/footmanlaw26.AgingTells", spec := "agingTells", unfollowed := true, recurses := true, apart := false }
def AgingTellsSaid : Prop := agingTellsRow.holds Try.pinned (OpenSpec.ofChange agingTellsSpec)

/-- ITS FALSE NEIGHBOUR: 'it returns false'. Refute it at one input. -/
def agingTellsWrong : ChangeSpec := { name := "agingTells", fn := fun _ => fun
  | [d1, d2, d3] => { results := [.lit (.bool false)], args := [d1, d2, d3] }
  | _ => none }
def AgingTellsWrongFalsely : Prop := agingTellsRow.holds Try.pinned (OpenSpec.ofChange agingTellsWrong)

/-- 'footmanlaw26.AgingOnce': WHATEVER THE INPUT: true; the input reads as it did. -/
def agingOnceSpec : ChangeSpec := { name := "agingOnce", fn := fun _ => fun
  | [d1, d2, d3] => { results := [.lit (.bool true)], args := [d1, d2, d3] }
  | _ => none }
def agingOnceRow : OpenClaim := { program := "ytgaadhlneglidaa", sum := "e5446b3f1dc245af5a798d529b27f92a6f9bb3a9118eb417d1b65c283ed73fe6", func := "footman/footmanlaw26.AgingOnce", spec := "agingOnce", unfollowed := true, recurses := true, apart := false }
def AgingOnceSaid : Prop := agingOnceRow.holds Try.pinned (OpenSpec.ofChange agingOnceSpec)

/-- ITS FALSE NEIGHBOUR: 'it returns false'. Refute it at one input. -/
def agingOnceWrong : ChangeSpec := { name := "agingOnce", fn := fun _ => fun
  | [d1, d2, d3] => { results := [.lit (.bool false)], args := [d1, d2, d3] }
  | _ => none }
def AgingOnceWrongFalsely : Prop := agingOnceRow.holds Try.pinned (OpenSpec.ofChange agingOnceWrong)

/-- 'footmanlaw26.AgingEnds': WHATEVER THE INPUT: true; the input reads as it did. -/
def agingEndsSpec : ChangeSpec := { name := "agingEnds", fn := fun _ => fun
  | [d1, d2, d3] => { results := [.lit (.bool true)], args := [d1, d2, d3] }
  | _ => none }
def agingEndsRow : OpenClaim := { program := "ytgaadhlneglidaa", sum := "e5446b3f1dc245af5a798d529b27f92a6f9bb3a9118eb417d1b65c283ed73fe6", func := "footman/footmanlaw26.AgingEnds", spec := "agingEnds", unfollowed := true, recurses := true, apart := false }
def AgingEndsSaid : Prop := agingEndsRow.holds Try.pinned (OpenSpec.ofChange agingEndsSpec)

/-- ITS FALSE NEIGHBOUR: 'it returns false'. Refute it at one input. -/
def agingEndsWrong : ChangeSpec := { name := "agingEnds", fn := fun _ => fun
  | [d1, d2, d3] => { results := [.lit (.bool false)], args := [d1, d2, d3] }
  | _ => none }
def AgingEndsWrongFalsely : Prop := agingEndsRow.holds Try.pinned (OpenSpec.ofChange agingEndsWrong)

/- THE SECOND FORM. 'bulk': how many values and letters a reading holds, each counted each time it is reached (what is shared counts as often as it is met; a slice's spare places count too). A statement '..UptoSaid' is the law's where the arguments, and the package variables that the reading takes, are together of bulk at most 1048576: NARROWER than '..Said'. Prove '..Said' where nothing that the law and all that it calls make is longer than what came in: it says more and counts as full. Else prove '..UptoSaid'. A law counts once. -/
mutual
def uptoBulk {H : Type} : DataW H → Nat
  | .lit (.string bytes) => bytes.length + 1
  | .lit _ => 1
  | .nil => 1
  | .ptr d => uptoBulk d + 1
  | .slice elems spare => uptoBulkAll elems + uptoBulkAll spare + 1
  | .agg parts => uptoBulkAll parts + 1
  | .iface _ d => uptoBulk d + 1
  | .map entries => uptoBulkEntries entries + 1
  | .held _ => 1
def uptoBulkAll {H : Type} : List (DataW H) → Nat
  | [] => 0
  | d :: r => uptoBulk d + uptoBulkAll r
def uptoBulkEntries {H : Type} : List (Lit × DataW H) → Nat
  | [] => 0
  | x :: r => uptoBulkEntry x + uptoBulkEntries r
def uptoBulkEntry {H : Type} : Lit × DataW H → Nat
  | (.string bytes, d) => bytes.length + uptoBulk d + 1
  | (_, d) => uptoBulk d + 1
 end
def uptoSmall : (H : Type) → List (DataW H) → Bool := fun _ ds => decide (uptoBulkAll ds ≤ 1048576)
def OpenSpec.upto (s : _root_.Go.ChangeSpec) : _root_.Go.OpenSpec := { _root_.Go.OpenSpec.ofChange s with cond := some uptoSmall }

/-- 'footmanlaw26.AgingChanges', WHERE WHAT IT READS IS OF BULK AT MOST 1048576: true; the input reads as it did. -/
def agingChangesUptoRow : OpenClaim := { program := "ytgaadhlneglidaa", sum := "e5446b3f1dc245af5a798d529b27f92a6f9bb3a9118eb417d1b65c283ed73fe6", func := "footman/footmanlaw26.AgingChanges", spec := "agingChanges", unfollowed := true, recurses := true, apart := false, narrowed := true }
def AgingChangesUptoSaid : Prop := agingChangesUptoRow.holds Try.pinned (OpenSpec.upto agingChangesSpec)

/-- 'footmanlaw26.AgingTells', WHERE WHAT IT READS IS OF BULK AT MOST 1048576: true; the input reads as it did. -/
def agingTellsUptoRow : OpenClaim := { program := "ytgaadhlneglidaa", sum := "e5446b3f1dc245af5a798d529b27f92a6f9bb3a9118eb417d1b65c283ed73fe6", func := "footman/footmanlaw26.AgingTells", spec := "agingTells", unfollowed := true, recurses := true, apart := false, narrowed := true }
def AgingTellsUptoSaid : Prop := agingTellsUptoRow.holds Try.pinned (OpenSpec.upto agingTellsSpec)

/-- 'footmanlaw26.AgingOnce', WHERE WHAT IT READS IS OF BULK AT MOST 1048576: true; the input reads as it did. -/
def agingOnceUptoRow : OpenClaim := { program := "ytgaadhlneglidaa", sum := "e5446b3f1dc245af5a798d529b27f92a6f9bb3a9118eb417d1b65c283ed73fe6", func := "footman/footmanlaw26.AgingOnce", spec := "agingOnce", unfollowed := true, recurses := true, apart := false, narrowed := true }
def AgingOnceUptoSaid : Prop := agingOnceUptoRow.holds Try.pinned (OpenSpec.upto agingOnceSpec)

/-- 'footmanlaw26.AgingEnds', WHERE WHAT IT READS IS OF BULK AT MOST 1048576: true; the input reads as it did. -/
def agingEndsUptoRow : OpenClaim := { program := "ytgaadhlneglidaa", sum := "e5446b3f1dc245af5a798d529b27f92a6f9bb3a9118eb417d1b65c283ed73fe6", func := "footman/footmanlaw26.AgingEnds", spec := "agingEnds", unfollowed := true, recurses := true, apart := false, narrowed := true }
def AgingEndsUptoSaid : Prop := agingEndsUptoRow.holds Try.pinned (OpenSpec.upto agingEndsSpec)

end Rows
end Go.Proofs.Ytgaadhlneglidaa
