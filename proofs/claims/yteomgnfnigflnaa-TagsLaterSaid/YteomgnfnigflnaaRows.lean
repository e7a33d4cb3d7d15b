/-
  No cell of these rows narrows 'for every input' (looked for: loops, veiled, ifaces, maps, wideKeys, modest, calm, conditions, laid).
  DERIVED. THE GIVEN ROWS OF THIS SEAT. 4 by the template 'for every input the law returns true; each argument reads behind the call as it read before'; 0 by the template 'total and deterministic' (their statements: YteomgnfnigflnaaTotals.lean).
  GIVEN WITH THE SEED: the statements are not yours to turn. If you find one false, say at which input.
  Laid BY PROGRAM, IN A SANDBOX (cutbox-rows.mjs): the forced cells as the released guide's own fill.sh prints them over the translation 3fae0dff6a1349e8… (all of the seat's roots in one cut). By AI agents, Wed Nov 11 2026. No macro, syntax, notation, axiom, sorry.
-/
import Derived.Test.YteomgnfnigflnaaChecked
import GoSem.Claim
import GoSem.ClaimJoined
import GoSem.ClaimMapViews
import Derived.JoinedTies
import Derived.KernelRfl
namespace Go.Proofs.Yteomgnfnigflnaa
/- THE CELL 'sum', in the pinned program and in every row, IS THE sha256 OF THE DUMP (.gsa) THAT YteomgnfnigflnaaProg.lean LOADS. Nothing in Lean hashes anything: it is a label: what it is worth is what the hold of that sum in a sandbox is worth. -/
noncomputable def Try.pinned : Pinned := { name := "yteomgnfnigflnaa", sum := "3fae0dff6a1349e8ded091ee65f10f01f00812acd59d349ac732cda876ff3ef2", checked := Try.checked }
namespace Rows
def none {H : Type} : Left H := { results := [], args := [] }

/-- 'footmanlaw25.TagsServes': WHATEVER THE INPUT: true; the input reads as it did. -/
def tagsServesSpec : ChangeSpec := { name := "tagsServes", fn := fun _ => fun
  | [d1, d2, d3] => { results := [.lit (.bool true)], args := [d1, d2, d3] }
  | _ => none }
def tagsServesRow : OpenClaim := { program := "yteomgnfnigflnaa", sum := "3fae0dff6a1349e8ded091ee65f10f01f00812acd59d349ac732cda876ff3ef2", func := "footman/footmanlaw25.TagsServes", spec := "tagsServes", apart := false }
def TagsServesSaid : Prop := tagsServesRow.holds Try.pinned (OpenSpec.ofChange tagsServesSpec)

/-- ITS FALSE NEIGHBOUR: 'it returns false'. Refute it at one input. -/
def tagsServesWrong : ChangeSpec := { name := "tagsServes", fn := fun _ => fun
  | [d1, d2, d3] => { results := [.lit (.bool false)], args := [d1, d2, d3] }
  | _ => none }
def TagsServesWrongFalsely : Prop := tagsServesRow.holds Try.pinned (OpenSpec.ofChange tagsServesWrong)

/-- 'footmanlaw25.TagsRuns': WHATEVER THE INPUT: true; the input reads as it did. -/
def tagsRunsSpec : ChangeSpec := { name := "tagsRuns", fn := fun _ => fun
  | [d1, d2, d3] => { results := [.lit (.bool true)], args := [d1, d2, d3] }
  | _ => none }
def tagsRunsRow : OpenClaim := { program := "yteomgnfnigflnaa", sum := "3fae0dff6a1349e8ded091ee65f10f01f00812acd59d349ac732cda876ff3ef2", func := "footman/footmanlaw25.TagsRuns", spec := "tagsRuns", apart := false }
def TagsRunsSaid : Prop := tagsRunsRow.holds Try.pinned (OpenSpec.ofChange tagsRunsSpec)

/-- ITS FALSE NEIGHBOUR: 'it returns false'. Refute it at one input. -/
def tagsRunsWrong : ChangeSpec := { name := "tagsRuns", fn := fun _ => fun
  | [d1, d2, d3] => { results := [.lit (.bool false)], args := [d1, d2, d3] }
  | _ => none }
def TagsRunsWrongFalsely : Prop := tagsRunsRow.holds Try.pinned (OpenSpec.ofChange tagsRunsWrong)

/-- 'footmanlaw25.TagsFair': WHATEVER THE INPUT: true; the input reads as it did. -/
def tagsFairSpec : ChangeSpec := { name := "tagsFair", fn := fun _ => fun
  | [d1, d2, d3] => { results := [.lit (.bool true)], args := [d1, d2, d3] }
  | _ => none }
def tagsFairRow : OpenClaim := { program := "yteomgnfnigflnaa", sum := "3fae0dff6a1349e8ded091ee65f10f01f00812acd59d349ac732cda876ff3ef2", func := "footman/footmanlaw25.TagsFair", spec := "tagsFair", apart := false }
def TagsFairSaid : Prop := tagsFairRow.holds Try.pinned (OpenSpec.ofChange tagsFairSpec)

/-- ITS FALSE NEIGHBOUR: 'it returns false'. Refute it at one input. -/
def tagsFairWrong : ChangeSpec := { name := "tagsFair", fn := fun _ => fun
  | [d1, d2, d3] => { results := [.lit (.bool false)], args := [d1, d2, d3] }
  | _ => none }
def TagsFairWrongFalsely : Prop := tagsFairRow.holds Try.pinned (OpenSpec.ofChange tagsFairWrong)

/-- 'footmanlaw25.TagsLater': WHATEVER THE INPUT: true; the input reads as it did. -/
def tagsLaterSpec : ChangeSpec := { name := "tagsLater", fn := fun _ => fun
  | [d1, d2, d3] => { results := [.lit (.bool true)], args := [d1, d2, d3] }
  | _ => none }
def tagsLaterRow : OpenClaim := { program := "yteomgnfnigflnaa", sum := "3fae0dff6a1349e8ded091ee65f10f01f00812acd59d349ac732cda876ff3ef2", func := "footman/footmanlaw25.TagsLater", spec := "tagsLater", apart := false }
def TagsLaterSaid : Prop := tagsLaterRow.holds Try.pinned (OpenSpec.ofChange tagsLaterSpec)

/-- ITS FALSE NEIGHBOUR: 'it returns false'. Refute it at one input. -/
def tagsLaterWrong : ChangeSpec := { name := "tagsLater", fn := fun _ => fun
  | [d1, d2, d3] => { results := [.lit (.bool false)], args := [d1, d2, d3] }
  | _ => none }
def TagsLaterWrongFalsely : Prop := tagsLaterRow.holds Try.pinned (OpenSpec.ofChange tagsLaterWrong)

/- THE SECOND FORM. 'bulk': how many values and letters a reading holds, each counted each time it is reached (what is shared counts as often as it is met; a slice's spare places count too). A statement '..UptoSaid' is the law's where the arguments, and the package variables that the reading takes, are together of bulk at most 1048576: NARROWER than '..Said'. Prove '..Said' where nothing that the law and all that it calls make is longer than what came in: it says more and counts as full. Else prove '..UptoSaid'. A law counts once. -/
mutual
def uptoBulk {H : Type} : DataW H → Nat
  | .lit (.string bytes) => bytes.length + 1
  | .lit _ => 1
  | .nil => 1
  | .ptr d => uptoBulk d + 1
  | .slice elems spare => uptoBulkAll elems + uptoBulkAll spare + 1
  | .agg parts => uptoBulkAll parts + 1
  | .iface _ d => uptoBulk d + 1
  | .map entries => uptoBulkEntries entries + 1
  | .held _ => 1
def uptoBulkAll {H : Type} : List (DataW H) → Nat
  | [] => 0
  | d :: r => uptoBulk d + uptoBulkAll r
def uptoBulkEntries {H : Type} : List (Lit × DataW H) → Nat
  | [] => 0
  | x :: r => uptoBulkEntry x + uptoBulkEntries r
def uptoBulkEntry {H : Type} : Lit × DataW H → Nat
  | (.string bytes, d) => bytes.length + uptoBulk d + 1
  | (_, d) => uptoBulk d + 1
 end
def uptoSmall : (H : Type) → List (DataW H) → Bool := fun _ ds => decide (uptoBulkAll ds ≤ 1048576)
def OpenSpec.upto (s : _root_.Go.ChangeSpec) : _root_.Go.OpenSpec := { _root_.Go.OpenSpec.ofChange s with cond := some uptoSmall }

/-- 'footmanlaw25.TagsServes', WHERE WHAT IT READS IS OF BULK AT MOST 1048576: true; the input reads as it did. -/
def tagsServesUptoRow : OpenClaim := { program := "yteomgnfnigflnaa", sum := "3fae0dff6a1349e8ded091ee65f10f01f00812acd59d349ac732cda876ff3ef2", func := "footman/footmanlaw25.TagsServes", spec := "tagsServes", apart := false, narrowed := true }
def TagsServesUptoSaid : Prop := tagsServesUptoRow.holds Try.pinned (OpenSpec.upto tagsServesSpec)

/-- 'footmanlaw25.TagsRuns', WHERE WHAT IT READS IS OF BULK AT MOST 1048576: true; the input reads as it did. -/
def tagsRunsUptoRow : OpenClaim := { program := "yteomgnfnigflnaa", sum := "3fae0dff6a1349e8ded091ee65f10f01f00812acd59d349ac732cda876ff3ef2", func := "footman/footmanlaw25.TagsRuns", spec := "tagsRuns", apart := false, narrowed := true }
def TagsRunsUptoSaid : Prop := tagsRunsUptoRow.holds Try.pinned (OpenSpec.upto tagsRunsSpec)

/-- 'footmanlaw25.TagsFair', WHERE WHAT IT READS IS OF BULK AT MOST 1048576: true; the input reads as it did. -/
def tagsFairUptoRow : OpenClaim := { program := "yteomgnfnigflnaa", sum := "3fae0dff6a1349e8ded091ee65f10f01f00812acd59d349ac732cda876ff3ef2", func := "footman/footmanlaw25.TagsFair", spec := "tagsFair", apart := false, narrowed := true }
def TagsFairUptoSaid : Prop := tagsFairUptoRow.holds Try.pinned (OpenSpec.upto tagsFairSpec)

/-- 'footmanlaw25.TagsLater', WHERE WHAT IT READS IS OF BULK AT MOST 1048576: true; the input reads as it did. -/
def tagsLaterUptoRow : OpenClaim := { program := "yteomgnfnigflnaa", sum := "3fae0dff6a1349e8ded091ee65f10f01f00812acd59d349ac732cda876ff3ef2", func := "footman/footmanlaw25.TagsLater", spec := "tagsLater", apart := false, narrowed := true }
def TagsLaterUptoSaid : Prop := tagsLaterUptoRow.holds Try.pinned (OpenSpec.upto tagsLaterSpec)

end Rows
end Go.Proofs.Yteomgnfnigflnaa
