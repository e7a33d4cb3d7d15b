import Derived.Test.YtjbohlgfhfehdaaGvZ
import Derived.Test.YtjbohlgfhfehdaaProg
namespace Go.Proofs.Gv
/- row functions: 7 footman/heap.Of, 24 slices.Clone[[]footman/heap.Item,footman/heap.Item], 26 slices.Clone[footman/heap.Heap,footman/heap.Item], 30 footman/heap.own -/
/- by reference: 25 (footman/heap.Heap).down, 27 slices.SortFunc[footman/heap.Heap,footman/heap.Item], 31 (footman/heap.Heap).up, 32 (footman/heap.Heap).cut, 34 slices.pdqsortCmpFunc[footman/heap.Item], 38 slices.insertionSortCmpFunc[footman/heap.Item], 39 slices.heapSortCmpFunc[footman/heap.Item], 40 slices.breakPatternsCmpFunc[footman/heap.Item], 42 slices.reverseRangeCmpFunc[footman/heap.Item], 43 slices.partialInsertionSortCmpFunc[footman/heap.Item], 44 slices.partitionEqualCmpFunc[footman/heap.Item], 45 slices.partitionCmpFunc[footman/heap.Item], 48 slices.siftDownCmpFunc[footman/heap.Item] -/
/- not flowed: (footman/heap.Heap).down goto -/
/- not flowed: (footman/heap.Heap).up goto -/
def kd22 : List Kd := ((.int Go.IntKind.i64) :: ((.int Go.IntKind.i64) :: []))
def kd26 : List Kd := ((.int Go.IntKind.i64) :: ((.int Go.IntKind.i64) :: []))
def kd27 : List Kd := ((.int Go.IntKind.i64) :: ((.int Go.IntKind.i64) :: []))
def ids : List (Nat × List (Nat × Nat)) := [
  (3, [(4, 1), (5, 2)]),
  (4, [(4, 2), (10, 1)]),
  (5, [(8, 0)]),
  (6, [(3, 2), (8, 1), (15, 0)]),
  (8, [(17, 0)]),
  (10, [(17, 0)]),
  (12, [(35, 0), (41, 1), (45, 2)]),
  (15, [(2, 0), (3, 1)]),
  (16, [(2, 0), (3, 1)]),
  (17, [(3, 2), (10, 1)]),
  (18, [(3, 2), (6, 0)]),
  (21, [(3, 2), (8, 0), (11, 1)]),
  (23, [(10, 0), (15, 1)]),
  (24, [(5, 0), (7, 1)]),
  (26, [(5, 0), (7, 1)]),
  (28, [(2, 0), (3, 1)]),
  (33, [(3, 0)]),
  (37, [(2, 0)]),
  (40, [(9, 0)]),
  (41, [(11, 0)])]
def alts : List (Nat × List (Nat × Nat)) := [
  ]
def rids : List (Nat × List (Nat × List Nat)) := [
  (3, [(14, [0])]),
  (4, [(125, [0])]),
  (6, [(22, [3])]),
  (7, [(6, [0])]),
  (11, [(5, [0])]),
  (17, [(7, [0])]),
  (18, [(12, [1])]),
  (19, [(11, [0])]),
  (20, [(9, [0])]),
  (30, [(7, [1]), (9, [0])])]
def byrefs : List Nat := [25, 27, 31, 32, 34, 38, 39, 40, 42, 43, 44, 45, 48]
def rowfs : List Nat := [7, 24, 26, 30]
def keeps : List (Nat × Nat × List Nat × List Nat × List Nrm) := [
  (25, 0, [0, 1], [], []),
  (31, 0, [0, 1], [], []),
  (5, 12, [3, 5, 6], [], [.simm 3 kd27]),
  (5, 5, [0, 3, 4], [], [.simm 3 kd27]),
  (7, 3, [3, 4], [0, 1], [.slot 3 1 kd27, .ren 0 1]),
  (8, 3, [0, 3, 4], [0, 1], [.slot 3 1 kd27, .ren 0 1]),
  (9, 4, [0, 1, 5], [], []),
  (10, 3, [0, 3, 4], [0, 1], [.slot 3 1 kd22, .ren 0 1]),
  (12, 6, [0, 3, 4, 5], [3], []),
  (12, 3, [0, 3, 4], [2, 3], [.slot 3 3 kd22, .ren 2 3]),
  (13, 2, [0, 3], [], []),
  (14, 2, [0, 3], [], []),
  (22, 2, [0, 1, 5], [], []),
  (25, 2, [0, 1, 4, 5], [], []),
  (34, 2, [0, 1, 2, 3, 4, 10, 11], [], []),
  (36, 2, [0, 1, 7, 8], [], []),
  (38, 4, [0, 1, 2, 3, 8, 9], [], []),
  (38, 1, [0, 1, 2, 3, 8], [], []),
  (39, 8, [0, 3, 8, 9, 12], [], []),
  (39, 4, [0, 3, 8, 9, 10, 11], [], []),
  (40, 5, [0, 1, 8, 9, 10, 11], [0], []),
  (42, 2, [0, 8, 9], [], []),
  (43, 20, [0, 1, 2, 3, 9, 10, 12], [], []),
  (43, 14, [0, 1, 2, 3, 9, 10, 11], [], []),
  (43, 5, [0, 1, 2, 3, 9, 10], [], []),
  (43, 3, [0, 1, 2, 3, 9, 10], [], []),
  (44, 5, [0, 1, 4, 11, 12], [], []),
  (44, 3, [0, 1, 4, 11, 12], [], []),
  (45, 15, [0, 1, 4, 12, 13], [], []),
  (45, 13, [0, 1, 4, 12, 13], [], []),
  (45, 5, [0, 1, 4, 12, 13], [], []),
  (45, 3, [0, 1, 4, 12, 13], [], []),
  (48, 1, [0, 2, 3, 4, 10], [], [])]
def joins : List (Nat × Nat × List Nat) := [
  (4, 20, [6]),
  (4, 17, [139]),
  (4, 11, [118]),
  (4, 8, [73]),
  (5, 18, [2]),
  (5, 15, [72]),
  (5, 8, [35]),
  (12, 6, [28]),
  (15, 1, [4]),
  (25, 2, [20]),
  (31, 1, [15]),
  (34, 17, [97]),
  (34, 15, [75]),
  (38, 4, [34]),
  (43, 5, [36]),
  (44, 5, [65]),
  (44, 3, [47]),
  (45, 15, [139]),
  (45, 13, [120]),
  (45, 5, [66]),
  (45, 3, [47]),
  (48, 3, [40])]
def pres : List (Nat × Nat × List Nrm) := []
def nids : List (Nat × Nat) := [(3, 3), (4, 3), (5, 1), (6, 4), (7, 2), (8, 2), (10, 2), (11, 1), (12, 4), (15, 2), (16, 2), (17, 3), (18, 3), (19, 1), (20, 1), (21, 3), (23, 2), (24, 2), (26, 2), (28, 2), (30, 2), (33, 1), (37, 1), (40, 1), (41, 1)]
def look {α : Type} (i : Nat) : List (Nat × α) → Option α
  | [] => none
  | (j, a) :: l => match Nat.beq i j with
    | true => some a
    | false => look i l
def look2 {α : Type} (i k : Nat) : List (Nat × Nat × α) → Option α
  | [] => none
  | (j, m, a) :: l => match Nat.beq i j && Nat.beq k m with
    | true => some a
    | false => look2 i k l
def tab : Tab := { idOf := fun f d => look d ((look f ids).getD []), alt := fun f d => look d ((look f alts).getD []), rid := fun f d => (look d ((look f rids).getD [])).getD [], byref := (fun f => inL f byrefs), frz := fun f => !(inL f rowfs), keep := fun f i => look2 f i keeps, join := fun f i => look2 f i joins, nid := fun f => (look f nids).getD 0, pre := fun f i => (look2 f i pres).getD [] }
noncomputable abbrev gxs (spec : Gam) : Nat → Gam := gamN Go.Proofs.Try.prog tab 100000 spec
noncomputable abbrev gx : Nat → Gam := gxs (fun _ _ _ => none)
end Go.Proofs.Gv
