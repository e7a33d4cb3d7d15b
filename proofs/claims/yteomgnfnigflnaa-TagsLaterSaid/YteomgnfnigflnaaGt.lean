import Derived.Test.YteomgnfnigflnaaGvZ
import Derived.Test.YteomgnfnigflnaaProg
namespace Go.Proofs.Gv
/- row functions: 31 slices.Clone[[]footman/tags.Tag,footman/tags.Tag] -/
/- by reference:  -/
def kd44 : List Kd := ((.int Go.IntKind.i64) :: ((.int Go.IntKind.i64) :: ((.int Go.IntKind.i64) :: ((.int Go.IntKind.i64) :: []))))
def kd45 : List Kd := ((.int Go.IntKind.i64) :: [])
def kd47 : List Kd := ((.int Go.IntKind.i64) :: ((.int Go.IntKind.i64) :: ((.int Go.IntKind.i64) :: ((.int Go.IntKind.i64) :: []))))
def kd62 : List Kd := ((.int Go.IntKind.u8) :: [])
def kd63 : List Kd := ((.int Go.IntKind.u16) :: [])
def ids : List (Nat × List (Nat × Nat)) := [
  (3, [(3, 5), (7, 4), (9, 3), (12, 2), (18, 1), (20, 0)]),
  (4, [(5, 0)]),
  (5, [(10, 3), (62, 2), (85, 1), (89, 0)]),
  (6, [(10, 4), (12, 3), (66, 1), (70, 2), (85, 0)]),
  (7, [(4, 0), (7, 1)]),
  (8, [(4, 0), (7, 1)]),
  (11, [(2, 0)]),
  (12, [(2, 1), (4, 0)]),
  (13, [(3, 0), (4, 1)]),
  (14, [(3, 0), (4, 1)]),
  (15, [(1, 0)]),
  (16, [(1, 0)]),
  (17, [(1, 4), (3, 3), (8, 2), (10, 1), (11, 0)]),
  (18, [(13, 1), (51, 0)]),
  (19, [(17, 0)]),
  (20, [(11, 2), (15, 4), (35, 3), (53, 1), (61, 0)]),
  (22, [(17, 0)]),
  (26, [(4, 0), (5, 1), (6, 2)]),
  (27, [(4, 0), (5, 1), (6, 2)]),
  (31, [(5, 0), (7, 1)])]
def alts : List (Nat × List (Nat × Nat)) := [
  ]
def rids : List (Nat × List (Nat × List Nat)) := [
  (18, [(16, [2])])]
def byrefs : List Nat := []
def rowfs : List Nat := [31]
def keeps : List (Nat × Nat × List Nat × List Nat × List Nrm) := [
  (5, 29, [7, 8, 16, 18, 20, 21], [0, 1, 2, 4], [.slot 7 4 kd47, .ren 2 4]),
  (5, 26, [7, 8, 16, 18, 20], [0, 1, 2, 4], [.slot 7 4 kd47, .ren 2 4]),
  (5, 14, [1, 2, 7, 8, 12, 13, 14], [0, 1, 2, 4, 5, 6], [.slot 13 5 kd45, .slot 12 6 kd45, .slot 7 4 kd47, .ren 0 5, .ren 1 6, .ren 2 4]),
  (5, 6, [0, 1, 2, 7, 8, 9], [2, 4], [.slot 7 4 kd47, .ren 2 4]),
  (6, 38, [2, 14, 16, 18, 20, 22, 24, 25], [0, 1, 2], []),
  (6, 33, [2, 14, 16, 18, 20, 22, 24], [0, 1, 2], []),
  (6, 27, [2, 13, 14, 16, 17, 18, 19, 20, 21, 22, 23], [0, 1, 2, 5], [.slot 13 5 kd45, .ren 0 5]),
  (6, 16, [1, 2, 7, 8, 13, 14, 15], [0, 1, 2, 5, 6, 7], [.slot 13 5 kd45, .slot 7 6 kd47, .slot 8 7 kd47, .ren 0 5, .ren 1 6, .ren 2 7]),
  (6, 5, [0, 1, 2, 7, 8, 9], [1, 2, 6, 7], [.slot 7 6 kd47, .slot 8 7 kd47, .ren 1 6, .ren 2 7]),
  (18, 4, [6, 7, 17, 18, 19], [0, 2, 3, 4], [.slot 7 3 kd45, .slot 6 4 kd47, .ren 0 3, .ren 2 4]),
  (19, 3, [0, 3, 4], [0, 1], [.slot 3 1 kd47, .ren 0 1]),
  (20, 5, [1, 6, 7, 8], [0, 1, 3, 4, 5, 6], [.slot 7 5 kd45, .slot 6 6 kd44, .ren 0 5, .ren 1 5, .ren 3 5, .ren 4 6]),
  (21, 4, [0, 1, 5], [], []),
  (22, 3, [0, 3, 4], [0, 1], [.slot 3 1 kd44, .ren 0 1]),
  (23, 4, [0, 1, 5], [], []),
  (24, 3, [0, 3, 6, 7], [], []),
  (25, 3, [0, 3, 4], [], [])]
def joins : List (Nat × Nat × List Nat) := [
  (3, 8, [6]),
  (4, 9, [6]),
  (4, 5, [51]),
  (4, 1, [18]),
  (5, 35, [213]),
  (5, 33, [181]),
  (5, 23, [120]),
  (5, 1, [38]),
  (6, 42, [6]),
  (6, 40, [252]),
  (6, 35, [219]),
  (6, 30, [178]),
  (6, 23, [150]),
  (6, 1, [38]),
  (7, 7, [42]),
  (8, 7, [32]),
  (9, 1, [13]),
  (10, 1, [16]),
  (13, 1, [11]),
  (14, 1, [12]),
  (15, 1, [20]),
  (16, 1, [28]),
  (17, 8, [0]),
  (18, 7, [30]),
  (20, 8, [32]),
  (24, 5, [24]),
  (25, 5, [25]),
  (26, 3, [36]),
  (26, 1, [22]),
  (27, 5, [8]),
  (27, 1, [40]),
  (28, 1, [4]),
  (29, 1, [2]),
  (30, 1, [4])]
def nids : List (Nat × Nat) := [(3, 6), (4, 1), (5, 7), (6, 8), (7, 2), (8, 2), (11, 1), (12, 2), (13, 2), (14, 2), (15, 1), (16, 1), (17, 5), (18, 5), (19, 2), (20, 7), (22, 2), (26, 3), (27, 3), (31, 2)]
def look {α : Type} (i : Nat) : List (Nat × α) → Option α
  | [] => none
  | (j, a) :: l => match Nat.beq i j with
    | true => some a
    | false => look i l
def look2 {α : Type} (i k : Nat) : List (Nat × Nat × α) → Option α
  | [] => none
  | (j, m, a) :: l => match Nat.beq i j && Nat.beq k m with
    | true => some a
    | false => look2 i k l
def tab : Tab := { idOf := fun f d => look d ((look f ids).getD []), alt := fun f d => look d ((look f alts).getD []), rid := fun f d => (look d ((look f rids).getD [])).getD [], byref := (fun f => inL f byrefs), frz := fun f => !(inL f rowfs), keep := fun f i => look2 f i keeps, join := fun f i => look2 f i joins, nid := fun f => (look f nids).getD 0 }
noncomputable abbrev gxs (spec : Gam) : Nat → Gam := gamN Go.Proofs.Try.prog tab 100000 spec
noncomputable abbrev gx : Nat → Gam := gxs (fun _ _ _ => none)
end Go.Proofs.Gv
