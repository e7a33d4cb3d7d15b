/-
  No cell of these rows narrows 'for every input' (looked for: loops, veiled, ifaces, maps, wideKeys, modest, calm, conditions, laid).
  DERIVED. THE GIVEN ROWS OF THIS SEAT. 4 by the template 'for every input the law returns true; each argument reads behind the call as it read before'; 0 by the template 'total and deterministic' (their statements: YtogfdnopjgpdiaaTotals.lean).
  GIVEN WITH THE SEED: the statements are not yours to turn. If you find one false, say at which input.
  Laid BY PROGRAM, IN A SANDBOX (cutbox-rows.mjs): the forced cells as the released guide's own fill.sh prints them over the translation d1f3f3f30c94867a… (all of the seat's roots in one cut). By AI agents, Wed Nov 11 2026. No macro, syntax, notation, axiom, sorry.
-/
import Derived.Test.YtogfdnopjgpdiaaChecked
import GoSem.Claim
import GoSem.ClaimJoined
import GoSem.ClaimMapViews
import Derived.JoinedTies
import Derived.KernelRfl
namespace Go.Proofs.Ytogfdnopjgpdiaa
/- THE CELL 'sum', in the pinned program and in every row, IS THE sha256 OF THE DUMP (.gsa) THAT YtogfdnopjgpdiaaProg.lean LOADS. Nothing in Lean hashes anything: it is a label: what it is worth is what the hold of that sum in a sandbox is worth. -/
noncomputable def Try.pinned : Pinned := { name := "ytogfdnopjgpdiaa", sum := "d1f3f3f30c94867a462e88be51c4d43d6f26b1d6dcc26a009e0c7ecb002c3a17", checked := Try.checked }
namespace Rows
def none {H : Type} : Left H := { results := [], args := [] }

/-- 'footmanlaw13.UnackPushes': WHATEVER THE INPUT: true; the input reads as it did. -/
def unackPushesSpec : ChangeSpec := { name := "unackPushes", fn := fun _ => fun
  | [d1, d2, d3] => { results := [.lit (.bool true)], args := [d1, d2, d3] }
  | _ => none }
def unackPushesRow : OpenClaim := { program := "ytogfdnopjgpdiaa", sum := "d1f3f3f30c94867a462e88be51c4d43d6f26b1d6dcc26a009e0c7ecb002c3a17", func := "footman/footmanlaw13.UnackPushes", spec := "unackPushes", unfollowed := true, recurses := true, apart := false }
def UnackPushesSaid : Prop := unackPushesRow.holds Try.pinned (OpenSpec.ofChange unackPushesSpec)

/-- ITS FALSE NEIGHBOUR: 'it returns false'. Refute it at one input. -/
def unackPushesWrong : ChangeSpec := { name := "unackPushes", fn := fun _ => fun
  | [d1, d2, d3] => { results := [.lit (.bool false)], args := [d1, d2, d3] }
  | _ => none }
def UnackPushesWrongFalsely : Prop := unackPushesRow.holds Try.pinned (OpenSpec.ofChange unackPushesWrong)

/-- 'footmanlaw13.UnackTells': WHATEVER THE INPUT: true; the input reads as it did. -/
def unackTellsSpec : ChangeSpec := { name := "unackTells", fn := fun _ => fun
  | [d1, d2, d3] => { results := [.lit (.bool true)], args := [d1, d2, d3] }
  | _ => none }
def unackTellsRow : OpenClaim := { program := "ytogfdnopjgpdiaa", sum := "d1f3f3f30c94867a462e88be51c4d43d6f26b1d6dcc26a009e0c7ecb002c3a17", func := "footman/footmanlaw13.UnackTells", spec := "unackTells", unfollowed := true, recurses := true, apart := false }
def UnackTellsSaid : Prop := unackTellsRow.holds Try.pinned (OpenSpec.ofChange unackTellsSpec)

/-- ITS FALSE NEIGHBOUR: 'it returns false'. Refute it at one input. -/
def unackTellsWrong : ChangeSpec := { name := "unackTells", fn := fun _ => fun
  | [d1, d2, d3] => { results := [.lit (.bool false)], args := [d1, d2, d3] }
  | _ => none }
def UnackTellsWrongFalsely : Prop := unackTellsRow.holds Try.pinned (OpenSpec.ofChange unackTellsWrong)

/-- 'footmanlaw13.UnackOrder': WHATEVER THE INPUT: true; the input reads as it did. -/
def unackOrderSpec : ChangeSpec := { name := "unackOrder", fn := fun _ => fun
  | [d] => { results := [.lit (.bool true)], args := [d] }
  | _ => none }
def unackOrderRow : OpenClaim := { program := "ytogfdnopjgpdiaa", sum := "d1f3f3f30c94867a462e88be51c4d43d6f26b1d6dcc26a009e0c7ecb002c3a17", func := "footman/footmanlaw13.UnackOrder", spec := "unackOrder", unfollowed := true, recurses := true, apart := false }
def UnackOrderSaid : Prop := unackOrderRow.holds Try.pinned (OpenSpec.ofChange unackOrderSpec)

/-- ITS FALSE NEIGHBOUR: 'it returns false'. Refute it at one input. -/
def unackOrderWrong : ChangeSpec := { name := "unackOrder", fn := fun _ => fun
  | [d] => { results := [.lit (.bool false)], args := [d] }
  | _ => none }
def UnackOrderWrongFalsely : Prop := unackOrderRow.holds Try.pinned (OpenSpec.ofChange unackOrderWrong)

/-- 'footmanlaw13.UnackLate': WHATEVER THE INPUT: true; the input reads as it did. -/
def unackLateSpec : ChangeSpec := { name := "unackLate", fn := fun _ => fun
  | [d1, d2, d3] => { results := [.lit (.bool true)], args := [d1, d2, d3] }
  | _ => none }
def unackLateRow : OpenClaim := { program := "ytogfdnopjgpdiaa", sum := "d1f3f3f30c94867a462e88be51c4d43d6f26b1d6dcc26a009e0c7ecb002c3a17", func := "footman/footmanlaw13.UnackLate", spec := "unackLate", unfollowed := true, recurses := true, apart := false }
def UnackLateSaid : Prop := unackLateRow.holds Try.pinned (OpenSpec.ofChange unackLateSpec)

/-- ITS FALSE NEIGHBOUR: 'it returns false'. Refute it at one input. -/
def unackLateWrong : ChangeSpec := { name := "unackLate", fn := fun _ => fun
  | [d1, d2, d3] => { results := [.lit (.bool false)], args := [d1, d2, d3] }
  | _ => none }
def UnackLateWrongFalsely : Prop := unackLateRow.holds Try.pinned (OpenSpec.ofChange unackLateWrong)

/- THE SECOND FORM. 'bulk': how many values and letters a reading holds, each counted each time it is reached (what is shared counts as often as it is met; a slice's spare places count too). A statement '..UptoSaid' is the law's where the arguments, and the package variables that the reading takes, are together of bulk at most 1048576: NARROWER than '..Said'. Prove '..Said' where nothing that the law and all that it calls make is longer than what came in: it says more and counts as full. Else prove '..UptoSaid'. A law counts once. -/
mutual
def uptoBulk {H : Type} : DataW H → Nat
  | .lit (.string bytes) => bytes.length + 1
  | .lit _ => 1
  | .nil => 1
  | .ptr d => uptoBulk d + 1
  | .slice elems spare => uptoBulkAll elems + uptoBulkAll spare + 1
  | .agg parts => uptoBulkAll parts + 1
  | .iface _ d => uptoBulk d + 1
  | .map entries => uptoBulkEntries entries + 1
  | .held _ => 1
def uptoBulkAll {H : Type} : List (DataW H) → Nat
  | [] => 0
  | d :: r => uptoBulk d + uptoBulkAll r
def uptoBulkEntries {H : Type} : List (Lit × DataW H) → Nat
  | [] => 0
  | x :: r => uptoBulkEntry x + uptoBulkEntries r
def uptoBulkEntry {H : Type} : Lit × DataW H → Nat
  | (.string bytes, d) => bytes.length + uptoBulk d + 1
  | (_, d) => uptoBulk d + 1
 end
def uptoSmall : (H : Type) → List (DataW H) → Bool := fun _ ds => decide (uptoBulkAll ds ≤ 1048576)
def OpenSpec.upto (s : _root_.Go.ChangeSpec) : _root_.Go.OpenSpec := { _root_.Go.OpenSpec.ofChange s with cond := some uptoSmall }

/-- 'footmanlaw13.UnackPushes', WHERE WHAT IT READS IS OF BULK AT MOST 1048576: true; the input reads as it did. -/
def unackPushesUptoRow : OpenClaim := { program := "ytogfdnopjgpdiaa", sum := "d1f3f3f30c94867a462e88be51c4d43d6f26b1d6dcc26a009e0c7ecb002c3a17", func := "footman/footmanlaw13.UnackPushes", spec := "unackPushes", unfollowed := true, recurses := true, apart := false, narrowed := true }
def UnackPushesUptoSaid : Prop := unackPushesUptoRow.holds Try.pinned (OpenSpec.upto unackPushesSpec)

/-- 'footmanlaw13.UnackTells', WHERE WHAT IT READS IS OF BULK AT MOST 1048576: true; the input reads as it did. -/
def unackTellsUptoRow : OpenClaim := { program := "ytogfdnopjgpdiaa", sum := "d1f3f3f30c94867a462e88be51c4d43d6f26b1d6dcc26a009e0c7ecb002c3a17", func := "footman/footmanlaw13.UnackTells", spec := "unackTells", unfollowed := true, recurses := true, apart := false, narrowed := true }
def UnackTellsUptoSaid : Prop := unackTellsUptoRow.holds Try.pinned (OpenSpec.upto unackTellsSpec)

/-- 'footmanlaw13.UnackOrder', WHERE WHAT IT READS IS OF BULK AT MOST 1048576: true; the input reads as it did. -/
def unackOrderUptoRow : OpenClaim := { program := "ytogfdnopjgpdiaa", sum := "d1f3f3f30c94867a462e88be51c4d43d6f26b1d6dcc26a009e0c7ecb002c3a17", func := "footman/footmanlaw13.UnackOrder", spec := "unackOrder", unfollowed := true, recurses := true, apart := false, narrowed := true }
def UnackOrderUptoSaid : Prop := unackOrderUptoRow.holds Try.pinned (OpenSpec.upto unackOrderSpec)

/-- 'footmanlaw13.UnackLate', WHERE WHAT IT READS IS OF BULK AT MOST 1048576: true; the input reads as it did. -/
def unackLateUptoRow : OpenClaim := { program := "ytogfdnopjgpdiaa", sum := "d1f3f3f30c94867a462e88be51c4d43d6f26b1d6dcc26a009e0c7ecb002c3a17", func := "footman/footmanlaw13.UnackLate", spec := "unackLate", unfollowed := true, recurses := true, apart := false, narrowed := true }
def UnackLateUptoSaid : Prop := unackLateUptoRow.holds Try.pinned (OpenSpec.upto unackLateSpec)

end Rows
end Go.Proofs.Ytogfdnopjgpdiaa
