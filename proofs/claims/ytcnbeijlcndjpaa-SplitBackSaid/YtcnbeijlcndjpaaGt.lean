import Derived.Test.YtcnbeijlcndjpaaGvZ
import Derived.Test.YtcnbeijlcndjpaaProg
namespace Go.Proofs.Gv
/- row functions: 9 footman/fhead.Put, 28 footman/footmanref08.Wide -/
/- by reference:  -/
def kd24 : List Kd := ((.int Go.IntKind.u8) :: [])
def kd46 : List Kd := ((.int Go.IntKind.i64) :: ((.int Go.IntKind.u8) :: ((.int Go.IntKind.u8) :: ((.int Go.IntKind.i64) :: (.str :: [])))))
def kd51 : List Kd := ((.int Go.IntKind.i64) :: ((.int Go.IntKind.u8) :: ((.int Go.IntKind.u8) :: ((.int Go.IntKind.i64) :: (.str :: [])))))
def ids : List (Nat × List (Nat × Nat)) := [
  (3, [(1, 1)]),
  (4, [(5, 1), (7, 0)]),
  (5, [(2, 8), (5, 7), (8, 5), (10, 1), (12, 0), (56, 2), (58, 3), (60, 4)]),
  (6, [(2, 2), (5, 1), (8, 0)]),
  (7, [(9, 7), (12, 6), (15, 5), (18, 4), (77, 0), (79, 1), (81, 2), (83, 3)]),
  (8, [(7, 10), (11, 8), (14, 6), (17, 5), (22, 0), (31, 9), (141, 2), (143, 3), (145, 4), (174, 1), (175, 11)]),
  (9, [(1, 1), (7, 0)]),
  (10, [(1, 4), (19, 3), (24, 1)]),
  (11, [(1, 0)]),
  (12, [(1, 0)]),
  (13, [(1, 5), (4, 3), (6, 1), (19, 2)]),
  (14, [(2, 1), (4, 0)]),
  (15, [(2, 0)]),
  (16, [(2, 0)]),
  (18, [(2, 8), (5, 7), (8, 5), (11, 3), (14, 1), (27, 6), (35, 4), (43, 2), (51, 0)]),
  (19, [(2, 0), (4, 1)]),
  (20, [(2, 2), (4, 3), (10, 1), (63, 0)]),
  (22, [(24, 0)]),
  (23, [(1, 1), (3, 0)]),
  (24, [(1, 0)]),
  (25, [(1, 1), (3, 0)]),
  (26, [(1, 1), (3, 0)]),
  (27, [(2, 0), (3, 1)]),
  (28, [(15, 0), (17, 1)]),
  (31, [(6, 1), (38, 0)]),
  (32, [(3, 0)]),
  (33, [(2, 1), (4, 0)])]
def alts : List (Nat × List (Nat × Nat)) := [
  ]
def rids : List (Nat × List (Nat × List Nat)) := [
  (3, [(9, [0])]),
  (5, [(17, [6])]),
  (8, [(87, [7])]),
  (10, [(13, [2]), (23, [0])]),
  (13, [(13, [4]), (34, [0])])]
def byrefs : List Nat := []
def rowfs : List Nat := [9, 28]
def keeps : List (Nat × Nat × List Nat × List Nat × List Nrm) := [
  (8, 7, [0, 1, 2, 7, 10], [7, 10], []),
  (17, 2, [0, 1, 5], [], []),
  (20, 13, [4, 7, 8], [0, 3, 4], [.slot 8 4 kd51, .ren 0 4]),
  (20, 4, [2, 4, 7], [2, 3], []),
  (21, 4, [0, 1, 5], [], []),
  (22, 3, [0, 3, 4], [0, 1], [.slot 3 1 kd51, .ren 0 1]),
  (28, 3, [0, 1, 5, 6], [1, 2], [.slot 5 2 kd24, .ren 0 2, .ren 1 2]),
  (29, 3, [0, 3, 4], [], []),
  (30, 3, [0, 1, 6, 16, 17], [], []),
  (31, 2, [0, 5], [0, 2], [.slot 5 2 kd46, .ren 0 2])]
def joins : List (Nat × Nat × List Nat) := [
  (3, 3, [2]),
  (4, 5, [4]),
  (5, 11, [4]),
  (5, 6, [4]),
  (5, 5, [44]),
  (5, 4, [4]),
  (6, 5, [4]),
  (6, 1, [19]),
  (8, 27, [6]),
  (8, 20, [172]),
  (8, 14, [6]),
  (8, 4, [45]),
  (11, 1, [20]),
  (12, 1, [20]),
  (13, 6, [0]),
  (17, 4, [17]),
  (18, 7, [0]),
  (19, 1, [17]),
  (20, 1, [18]),
  (23, 9, [40]),
  (23, 7, [31]),
  (23, 2, [11]),
  (24, 5, [25]),
  (24, 3, [16]),
  (24, 1, [3]),
  (25, 1, [11]),
  (26, 2, [12])]
def pres : List (Nat × Nat × List Nrm) := [(8, 26, [.frz 20 1])]
def nids : List (Nat × Nat) := [(3, 2), (4, 2), (5, 9), (6, 3), (7, 8), (8, 12), (9, 2), (10, 5), (11, 1), (12, 1), (13, 6), (14, 2), (15, 1), (16, 1), (18, 9), (19, 2), (20, 5), (22, 2), (23, 2), (24, 1), (25, 2), (26, 2), (27, 2), (28, 3), (31, 3), (32, 1), (33, 2)]
def look {α : Type} (i : Nat) : List (Nat × α) → Option α
  | [] => none
  | (j, a) :: l => match Nat.beq i j with
    | true => some a
    | false => look i l
def look2 {α : Type} (i k : Nat) : List (Nat × Nat × α) → Option α
  | [] => none
  | (j, m, a) :: l => match Nat.beq i j && Nat.beq k m with
    | true => some a
    | false => look2 i k l
def tab : Tab := { idOf := fun f d => look d ((look f ids).getD []), alt := fun f d => look d ((look f alts).getD []), rid := fun f d => (look d ((look f rids).getD [])).getD [], byref := (fun f => inL f byrefs), frz := fun f => !(inL f rowfs), keep := fun f i => look2 f i keeps, join := fun f i => look2 f i joins, nid := fun f => (look f nids).getD 0, pre := fun f i => (look2 f i pres).getD [] }
noncomputable abbrev gxs (spec : Gam) : Nat → Gam := gamN Go.Proofs.Try.prog tab 100000 spec
noncomputable abbrev gx : Nat → Gam := gxs (fun _ _ _ => none)
end Go.Proofs.Gv
