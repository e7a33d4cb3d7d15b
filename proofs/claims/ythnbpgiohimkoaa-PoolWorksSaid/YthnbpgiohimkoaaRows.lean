/-
  No cell of these rows narrows 'for every input' (looked for: loops, veiled, ifaces, maps, wideKeys, modest, calm, conditions, laid).
  DERIVED. THE GIVEN ROWS OF THIS SEAT. 7 by the template 'for every input the law returns true; each argument reads behind the call as it read before'; 0 by the template 'total and deterministic' (their statements: YthnbpgiohimkoaaTotals.lean).
  GIVEN WITH THE SEED: the statements are not yours to turn. If you find one false, say at which input.
  Laid BY PROGRAM, IN A SANDBOX (cutbox-rows.mjs): the forced cells as the released guide's own fill.sh prints them over the translation 715d9b3e3b144470… (all of the seat's roots in one cut). By AI agents, Wed Nov 11 2026. No macro, syntax, notation, axiom, sorry.
-/
import Derived.Test.YthnbpgiohimkoaaChecked
import GoSem.Claim
import GoSem.ClaimJoined
import GoSem.ClaimMapViews
import Derived.JoinedTies
import Derived.KernelRfl
namespace Go.Proofs.Ythnbpgiohimkoaa
/- THE CELL 'sum', in the pinned program and in every row, IS THE sha256 OF THE DUMP (.gsa) THAT YthnbpgiohimkoaaProg.lean LOADS. Nothing in Lean hashes anything: it is a label: what it is worth is what the hold of that sum in a sandbox is worth. -/
noncomputable def Try.pinned : Pinned := { name := "ythnbpgiohimkoaa", sum := "715d9b3e3b1444702d91633c1b16f5634c2fb7b7932fa04e396ec9881086038d", checked := Try.checked }
namespace Rows
def none {H : Type} : Left H := { results := [], args := [] }

/-- 'footmanlaw29.PoolWorks': WHATEVER THE INPUT: true; the input reads as it did. -/
def poolWorksSpec : ChangeSpec := { name := "poolWorks", fn := fun _ => fun
  | [d1, d2, d3] => { results := [.lit (.bool true)], args := [d1, d2, d3] }
  | _ => none }
def poolWorksRow : OpenClaim := { program := "ythnbpgiohimkoaa", sum := "715d9b3e3b1444702d91633c1b16f5634c2fb7b7932fa04e396ec9881086038d", func := "footman/footmanlaw29.PoolWorks", spec := "poolWorks", unfollowed := true, recurses := true, apart := false }
def PoolWorksSaid : Prop := poolWorksRow.holds Try.pinned (OpenSpec.ofChange poolWorksSpec)

/-- ITS FALSE NEIGHBOUR: 'it returns false'. Refute it at one input. -/
def poolWorksWrong : ChangeSpec := { name := "poolWorks", fn := fun _ => fun
  | [d1, d2, d3] => { results := [.lit (.bool false)], args := [d1, d2, d3] }
  | _ => none }
def PoolWorksWrongFalsely : Prop := poolWorksRow.holds Try.pinned (OpenSpec.ofChange poolWorksWrong)

/-- 'footmanlaw29.PoolIdle': WHATEVER THE INPUT: true; the input reads as it did. -/
def poolIdleSpec : ChangeSpec := { name := "poolIdle", fn := fun _ => fun
  | [d1, d2] => { results := [.lit (.bool true)], args := [d1, d2] }
  | _ => none }
def poolIdleRow : OpenClaim := { program := "ythnbpgiohimkoaa", sum := "715d9b3e3b1444702d91633c1b16f5634c2fb7b7932fa04e396ec9881086038d", func := "footman/footmanlaw29.PoolIdle", spec := "poolIdle", unfollowed := true, recurses := true, apart := false }
def PoolIdleSaid : Prop := poolIdleRow.holds Try.pinned (OpenSpec.ofChange poolIdleSpec)

/-- ITS FALSE NEIGHBOUR: 'it returns false'. Refute it at one input. -/
def poolIdleWrong : ChangeSpec := { name := "poolIdle", fn := fun _ => fun
  | [d1, d2] => { results := [.lit (.bool false)], args := [d1, d2] }
  | _ => none }
def PoolIdleWrongFalsely : Prop := poolIdleRow.holds Try.pinned (OpenSpec.ofChange poolIdleWrong)

/-- 'footmanlaw27.FairPlays': WHATEVER THE INPUT: true; the input reads as it did. -/
def fairPlaysSpec : ChangeSpec := { name := "fairPlays", fn := fun _ => fun
  | [d1, d2] => { results := [.lit (.bool true)], args := [d1, d2] }
  | _ => none }
def fairPlaysRow : OpenClaim := { program := "ythnbpgiohimkoaa", sum := "715d9b3e3b1444702d91633c1b16f5634c2fb7b7932fa04e396ec9881086038d", func := "footman/footmanlaw27.FairPlays", spec := "fairPlays", unfollowed := true, recurses := true, apart := false }
def FairPlaysSaid : Prop := fairPlaysRow.holds Try.pinned (OpenSpec.ofChange fairPlaysSpec)

/-- ITS FALSE NEIGHBOUR: 'it returns false'. Refute it at one input. -/
def fairPlaysWrong : ChangeSpec := { name := "fairPlays", fn := fun _ => fun
  | [d1, d2] => { results := [.lit (.bool false)], args := [d1, d2] }
  | _ => none }
def FairPlaysWrongFalsely : Prop := fairPlaysRow.holds Try.pinned (OpenSpec.ofChange fairPlaysWrong)

/-- 'footmanlaw27.FairNobody': WHATEVER THE INPUT: true; the input reads as it did. -/
def fairNobodySpec : ChangeSpec := { name := "fairNobody", fn := fun _ => fun
  | [d] => { results := [.lit (.bool true)], args := [d] }
  | _ => none }
def fairNobodyRow : OpenClaim := { program := "ythnbpgiohimkoaa", sum := "715d9b3e3b1444702d91633c1b16f5634c2fb7b7932fa04e396ec9881086038d", func := "footman/footmanlaw27.FairNobody", spec := "fairNobody", unfollowed := true, recurses := true, apart := false }
def FairNobodySaid : Prop := fairNobodyRow.holds Try.pinned (OpenSpec.ofChange fairNobodySpec)

/-- ITS FALSE NEIGHBOUR: 'it returns false'. Refute it at one input. -/
def fairNobodyWrong : ChangeSpec := { name := "fairNobody", fn := fun _ => fun
  | [d] => { results := [.lit (.bool false)], args := [d] }
  | _ => none }
def FairNobodyWrongFalsely : Prop := fairNobodyRow.holds Try.pinned (OpenSpec.ofChange fairNobodyWrong)

/-- 'footmanlaw27.FairOnce': WHATEVER THE INPUT: true; the input reads as it did. -/
def fairOnceSpec : ChangeSpec := { name := "fairOnce", fn := fun _ => fun
  | [d] => { results := [.lit (.bool true)], args := [d] }
  | _ => none }
def fairOnceRow : OpenClaim := { program := "ythnbpgiohimkoaa", sum := "715d9b3e3b1444702d91633c1b16f5634c2fb7b7932fa04e396ec9881086038d", func := "footman/footmanlaw27.FairOnce", spec := "fairOnce", unfollowed := true, recurses := true, apart := false }
def FairOnceSaid : Prop := fairOnceRow.holds Try.pinned (OpenSpec.ofChange fairOnceSpec)

/-- ITS FALSE NEIGHBOUR: 'it returns false'. Refute it at one input. -/
def fairOnceWrong : ChangeSpec := { name := "fairOnce", fn := fun _ => fun
  | [d] => { results := [.lit (.bool false)], args := [d] }
  | _ => none }
def FairOnceWrongFalsely : Prop := fairOnceRow.holds Try.pinned (OpenSpec.ofChange fairOnceWrong)

/-- 'footmanlaw29.PoolSame': WHATEVER THE INPUT: true; the input reads as it did. -/
def poolSameSpec : ChangeSpec := { name := "poolSame", fn := fun _ => fun
  | [d1, d2, d3] => { results := [.lit (.bool true)], args := [d1, d2, d3] }
  | _ => none }
def poolSameRow : OpenClaim := { program := "ythnbpgiohimkoaa", sum := "715d9b3e3b1444702d91633c1b16f5634c2fb7b7932fa04e396ec9881086038d", func := "footman/footmanlaw29.PoolSame", spec := "poolSame", unfollowed := true, recurses := true, apart := false }
def PoolSameSaid : Prop := poolSameRow.holds Try.pinned (OpenSpec.ofChange poolSameSpec)

/-- ITS FALSE NEIGHBOUR: 'it returns false'. Refute it at one input. -/
def poolSameWrong : ChangeSpec := { name := "poolSame", fn := fun _ => fun
  | [d1, d2, d3] => { results := [.lit (.bool false)], args := [d1, d2, d3] }
  | _ => none }
def PoolSameWrongFalsely : Prop := poolSameRow.holds Try.pinned (OpenSpec.ofChange poolSameWrong)

/-- 'footmanlaw27.FairNear': WHATEVER THE INPUT: true; the input reads as it did. -/
def fairNearSpec : ChangeSpec := { name := "fairNear", fn := fun _ => fun
  | [d1, d2, d3] => { results := [.lit (.bool true)], args := [d1, d2, d3] }
  | _ => none }
def fairNearRow : OpenClaim := { program := "ythnbpgiohimkoaa", sum := "715d9b3e3b1444702d91633c1b16f5634c2fb7b7932fa04e396ec9881086038d", func := "footman/footmanlaw27.FairNear", spec := "fairNear", unfollowed := true, recurses := true, apart := false }
def FairNearSaid : Prop := fairNearRow.holds Try.pinned (OpenSpec.ofChange fairNearSpec)

/-- ITS FALSE NEIGHBOUR: 'it returns false'. Refute it at one input. -/
def fairNearWrong : ChangeSpec := { name := "fairNear", fn := fun _ => fun
  | [d1, d2, d3] => { results := [.lit (.bool false)], args := [d1, d2, d3] }
  | _ => none }
def FairNearWrongFalsely : Prop := fairNearRow.holds Try.pinned (OpenSpec.ofChange fairNearWrong)

/- THE SECOND FORM. 'bulk': how many values and letters a reading holds, each counted each time it is reached (what is shared counts as often as it is met; a slice's spare places count too). A statement '..UptoSaid' is the law's where the arguments, and the package variables that the reading takes, are together of bulk at most 1048576: NARROWER than '..Said'. Prove '..Said' where nothing that the law and all that it calls make is longer than what came in: it says more and counts as full. Else prove '..UptoSaid'. A law counts once. -/
mutual
def uptoBulk {H : Type} : DataW H → Nat
  | .lit (.string bytes) => bytes.length + 1
  | .lit _ => 1
  | .nil => 1
  | .ptr d => uptoBulk d + 1
  | .slice elems spare => uptoBulkAll elems + uptoBulkAll spare + 1
  | .agg parts => uptoBulkAll parts + 1
  | .iface _ d => uptoBulk d + 1
  | .map entries => uptoBulkEntries entries + 1
  | .held _ => 1
def uptoBulkAll {H : Type} : List (DataW H) → Nat
  | [] => 0
  | d :: r => uptoBulk d + uptoBulkAll r
def uptoBulkEntries {H : Type} : List (Lit × DataW H) → Nat
  | [] => 0
  | x :: r => uptoBulkEntry x + uptoBulkEntries r
def uptoBulkEntry {H : Type} : Lit × DataW H → Nat
  | (.string bytes, d) => bytes.length + uptoBulk d + 1
  | (_, d) => uptoBulk d + 1
 end
def uptoSmall : (H : Type) → List (DataW H) → Bool := fun _ ds => decide (uptoBulkAll ds ≤ 1048576)
def OpenSpec.upto (s : _root_.Go.ChangeSpec) : _root_.Go.OpenSpec := { _root_.Go.OpenSpec.ofChange s with cond := some uptoSmall }

/-- 'footmanlaw29.PoolWorks', WHERE WHAT IT READS IS OF BULK AT MOST 1048576: true; the input reads as it did. -/
def poolWorksUptoRow : OpenClaim := { program := "ythnbpgiohimkoaa", sum := "715d9b3e3b1444702d91633c1b16f5634c2fb7b7932fa04e396ec9881086038d", func := "footman/footmanlaw29.PoolWorks", spec := "poolWorks", unfollowed := true, recurses := true, apart := false, narrowed := true }
def PoolWorksUptoSaid : Prop := poolWorksUptoRow.holds Try.pinned (OpenSpec.upto poolWorksSpec)

/-- 'footmanlaw29.PoolIdle', WHERE WHAT IT READS IS OF BULK AT MOST 1048576: true; the input reads as it did. -/
def poolIdleUptoRow : OpenClaim := { program := "ythnbpgiohimkoaa", sum := "715d9b3e3b1444702d91633c1b16f5634c2fb7b7932fa04e396ec9881086038d", func := "footman/footmanlaw29.PoolIdle", spec := "poolIdle", unfollowed := true, recurses := true, apart := false, narrowed := true }
def PoolIdleUptoSaid : Prop := poolIdleUptoRow.holds Try.pinned (OpenSpec.upto poolIdleSpec)

/-- 'footmanlaw27.FairPlays', WHERE WHAT IT READS IS OF BULK AT MOST 1048576: true; the input reads as it did. -/
def fairPlaysUptoRow : OpenClaim := { program := "ythnbpgiohimkoaa", sum := "715d9b3e3b1444702d91633c1b16f5634c2fb7b7932fa04e396ec9881086038d", func := "footman/footmanlaw27.FairPlays", spec := "fairPlays", unfollowed := true, recurses := true, apart := false, narrowed := true }
def FairPlaysUptoSaid : Prop := fairPlaysUptoRow.holds Try.pinned (OpenSpec.upto fairPlaysSpec)

/-- 'footmanlaw27.FairNobody', WHERE WHAT IT READS IS OF BULK AT MOST 1048576: true; the input reads as it did. -/
def fairNobodyUptoRow : OpenClaim := { program := "ythnbpgiohimkoaa", sum := "715d9b3e3b1444702d91633c1b16f5634c2fb7b7932fa04e396ec9881086038d", func := "footman/footmanlaw27.FairNobody", spec := "fairNobody", unfollowed := true, recurses := true, apart := false, narrowed := true }
def FairNobodyUptoSaid : Prop := fairNobodyUptoRow.holds Try.pinned (OpenSpec.upto fairNobodySpec)

/-- 'footmanlaw27.FairOnce', WHERE WHAT IT READS IS OF BULK AT MOST 1048576: true; the input reads as it did. -/
def fairOnceUptoRow : OpenClaim := { program := "ythnbpgiohimkoaa", sum := "715d9b3e3b1444702d91633c1b16f5634c2fb7b7932fa04e396ec9881086038d", func := "footman/footmanlaw27.FairOnce", spec := "fairOnce", unfollowed := true, recurses := true, apart := false, narrowed := true }
def FairOnceUptoSaid : Prop := fairOnceUptoRow.holds Try.pinned (OpenSpec.upto fairOnceSpec)

/-- 'footmanlaw29.PoolSame', WHERE WHAT IT READS IS OF BULK AT MOST 1048576: true; the input reads as it did. -/
def poolSameUptoRow : OpenClaim := { program := "ythnbpgiohimkoaa", sum := "715d9b3e3b1444702d91633c1b16f5634c2fb7b7932fa04e396ec9881086038d", func := "footman/footmanlaw29.PoolSame", spec := "poolSame", unfollowed := true, recurses := true, apart := false, narrowed := true }
def PoolSameUptoSaid : Prop := poolSameUptoRow.holds Try.pinned (OpenSpec.upto poolSameSpec)

/-- 'footmanlaw27.FairNear', WHERE WHAT IT READS IS OF BULK AT MOST 1048576: true; the input reads as it did. -/
def fairNearUptoRow : OpenClaim := { program := "ythnbpgiohimkoaa", sum := "715d9b3e3b1444702d91633c1b16f5634c2fb7b7932fa04e396ec9881086038d", func := "footman/footmanlaw27.FairNear", spec := "fairNear", unfollowed := true, recurses := true, apart := false, narrowed := true }
def FairNearUptoSaid : Prop := fairNearUptoRow.holds Try.pinned (OpenSpec.upto fairNearSpec)

end Rows
end Go.Proofs.Ythnbpgiohimkoaa
