import Derived.Test.YtgpmodjpehimhaaGvZ
import Derived.Test.YtgpmodjpehimhaaProg
namespace Go.Proofs.Gv
/- row functions: 25 (footman/ids.Table).own, 30 slices.Clone[[]int,int] -/
/- by reference: 27 slices.Delete[[]int,int] -/
def kd22 : List Kd := ((.int Go.IntKind.i64) :: [])
def kd36 : List Kd := ((.int Go.IntKind.u8) :: (.bool :: (.bool :: [])))
def ids : List (Nat × List (Nat × Nat)) := [
  (3, [(3, 0), (4, 1)]),
  (4, [(3, 1), (10, 0)]),
  (5, [(1, 0)]),
  (6, [(1, 4), (3, 3), (5, 2), (7, 1), (9, 0)]),
  (7, [(2, 0)]),
  (8, [(2, 0)]),
  (9, [(1, 0)]),
  (10, [(1, 0)]),
  (11, [(2, 0), (3, 1)]),
  (12, [(2, 0), (3, 1)]),
  (13, [(3, 4), (6, 5), (7, 3), (37, 0)]),
  (14, [(2, 4), (4, 5), (6, 3), (32, 0)]),
  (21, [(1, 0)]),
  (25, [(1, 2), (2, 3)]),
  (27, [(26, 0)]),
  (30, [(5, 0), (7, 1)])]
def alts : List (Nat × List (Nat × Nat)) := [
  ]
def rids : List (Nat × List (Nat × List Nat)) := [
  (13, [(10, [1, 2])]),
  (14, [(8, [1, 2])]),
  (25, [(7, [0]), (10, [1])])]
def byrefs : List Nat := [27]
def rowfs : List Nat := [25, 30]
def keeps : List (Nat × Nat × List Nat × List Nat × List Nrm) := [
  (4, 6, [0, 3, 4, 5], [1], [.cimm 1 2 [.int .i64], .cimm 1 1 [.int .i64]]),
  (7, 10, [1, 5, 6, 23, 24, 28, 29, 30], [], []),
  (7, 7, [1, 5, 23, 24], [], []),
  (10, 13, [1, 4], [0], []),
  (10, 6, [1, 3], [0], []),
  (17, 2, [0, 1, 5], [], []),
  (19, 2, [0, 3], [], []),
  (21, 2, [1, 6, 7, 8], [0], []),
  (22, 2, [0, 1, 5], [], []),
  (23, 4, [0, 1, 12, 13], [], []),
  (24, 4, [0, 1, 5], [], []),
  (26, 2, [0, 1, 7, 8], [], []),
  (28, 2, [0, 1, 7, 8], [], [])]
def joins : List (Nat × Nat × List Nat) := [
  (3, 3, [6]),
  (3, 1, [14]),
  (4, 27, [121]),
  (4, 16, [67]),
  (4, 14, [57]),
  (4, 22, [103]),
  (4, 21, [12]),
  (5, 1, [2]),
  (6, 6, [0]),
  (9, 4, [15]),
  (9, 2, [5]),
  (10, 15, [85]),
  (10, 10, [58]),
  (10, 3, [15]),
  (10, 1, [5]),
  (11, 1, [4]),
  (12, 1, [4]),
  (13, 3, [21]),
  (15, 1, [2]),
  (16, 1, [2]),
  (18, 1, [3]),
  (21, 4, [24]),
  (22, 4, [25])]
def pres : List (Nat × Nat × List Nrm) := []
def nids : List (Nat × Nat) := [(3, 2), (4, 2), (5, 1), (6, 5), (7, 1), (8, 1), (9, 1), (10, 1), (11, 2), (12, 2), (13, 6), (14, 6), (21, 1), (25, 4), (27, 1), (30, 2)]
def look {α : Type} (i : Nat) : List (Nat × α) → Option α
  | [] => none
  | (j, a) :: l => match Nat.beq i j with
    | true => some a
    | false => look i l
def look2 {α : Type} (i k : Nat) : List (Nat × Nat × α) → Option α
  | [] => none
  | (j, m, a) :: l => match Nat.beq i j && Nat.beq k m with
    | true => some a
    | false => look2 i k l
def tab : Tab := { idOf := fun f d => look d ((look f ids).getD []), alt := fun f d => look d ((look f alts).getD []), rid := fun f d => (look d ((look f rids).getD [])).getD [], byref := (fun f => inL f byrefs), frz := fun f => !(inL f rowfs), keep := fun f i => look2 f i keeps, join := fun f i => look2 f i joins, nid := fun f => (look f nids).getD 0, pre := fun f i => (look2 f i pres).getD [] }
noncomputable abbrev gxs (spec : Gam) : Nat → Gam := gamN Go.Proofs.Try.prog tab 100000 spec
noncomputable abbrev gx : Nat → Gam := gxs (fun _ _ _ => none)
end Go.Proofs.Gv
