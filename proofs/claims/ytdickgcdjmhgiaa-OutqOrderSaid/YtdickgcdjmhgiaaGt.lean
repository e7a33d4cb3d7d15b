import Derived.Test.YtdickgcdjmhgiaaGvZ
import Derived.Test.YtdickgcdjmhgiaaProg
namespace Go.Proofs.Gv
/- row functions: 21 (footman/outq.Queue).own, 26 slices.Clone[[]string,string] -/
/- by reference:  -/
/- warning: footman/outq.Drain: loop 7: box in slot 6, part (0,): row 7 -/
/- warning: footman/footmanref19.Drain: loop 6: box in slot 6, part (0,): row 5 -/
def kd22 : List Kd := (.str :: [])
def kd25 : List Kd := ((.int Go.IntKind.u8) :: [])
def ids : List (Nat × List (Nat × Nat)) := [
  (3, [(3, 6), (8, 3), (10, 2), (12, 1), (14, 0), (25, 4), (28, 5)]),
  (4, [(2, 1), (3, 2), (5, 0)]),
  (5, [(5, 3), (10, 1), (12, 2), (14, 0)]),
  (6, [(3, 4), (7, 3), (8, 2), (10, 1), (12, 0)]),
  (7, [(1, 0)]),
  (8, [(1, 6), (4, 3), (6, 2), (8, 1), (12, 5), (19, 4), (36, 0)]),
  (9, [(2, 3), (4, 4), (6, 2), (38, 0)]),
  (10, [(2, 2), (4, 3), (39, 0), (43, 1)]),
  (11, [(2, 4), (4, 5), (6, 3), (38, 1), (70, 0)]),
  (12, [(2, 3), (4, 4), (6, 2), (49, 1), (68, 0)]),
  (13, [(2, 0), (3, 1)]),
  (14, [(1, 0)]),
  (15, [(1, 0)]),
  (16, [(1, 0)]),
  (17, [(1, 0)]),
  (18, [(1, 0)]),
  (19, [(1, 0)]),
  (20, [(2, 0), (3, 1)]),
  (21, [(1, 1), (2, 2)]),
  (26, [(5, 0), (7, 1)])]
def alts : List (Nat × List (Nat × Nat)) := [
  ]
def rids : List (Nat × List (Nat × List Nat)) := [
  (9, [(9, [1])]),
  (11, [(13, [2])]),
  (21, [(5, [0])])]
def byrefs : List Nat := []
def rowfs : List Nat := [21, 26]
def keeps : List (Nat × Nat × List Nat × List Nat × List Nrm) := [
  (5, 6, [0, 1, 5, 6, 7, 8, 9], [3], []),
  (7, 2, [1, 3], [0], []),
  (11, 7, [1, 4, 6, 7, 8, 23, 24, 25], [0, 1, 2, 3, 5, 6, 7], [.slot 7 6 kd25, .ren 0 6, .ren 1 6, .ren 2 7]),
  (12, 6, [1, 2, 4, 6, 7, 8], [0, 1, 2, 3, 4, 5, 6], [.slot 7 6 kd25, .cell 2 0 5 kd22, .ren 0 5, .ren 1 6]),
  (13, 4, [2, 3, 5], [0, 1], []),
  (15, 2, [1, 3], [0], []),
  (16, 3, [3, 7, 8, 9], [], []),
  (17, 3, [1, 3, 4], [0], []),
  (25, 4, [0, 1, 12, 13], [], []),
  (27, 2, [0, 1, 7, 8], [], [])]
def joins : List (Nat × Nat × List Nat) := [
  (3, 1, [23]),
  (4, 4, [4]),
  (4, 1, [13]),
  (5, 26, [4]),
  (5, 23, [122]),
  (5, 1, [23]),
  (6, 7, [6]),
  (6, 2, [22]),
  (8, 6, [0]),
  (9, 5, [28]),
  (10, 4, [15]),
  (11, 16, [62]),
  (11, 2, [20]),
  (12, 1, [16]),
  (13, 1, [26]),
  (14, 6, [13]),
  (15, 8, [21]),
  (20, 1, [4]),
  (23, 1, [2]),
  (24, 1, [2])]
def nids : List (Nat × Nat) := [(3, 7), (4, 3), (5, 4), (6, 5), (7, 1), (8, 7), (9, 5), (10, 4), (11, 8), (12, 7), (13, 2), (14, 1), (15, 1), (16, 1), (17, 1), (18, 1), (19, 1), (20, 2), (21, 3), (26, 2)]
def look {α : Type} (i : Nat) : List (Nat × α) → Option α
  | [] => none
  | (j, a) :: l => match Nat.beq i j with
    | true => some a
    | false => look i l
def look2 {α : Type} (i k : Nat) : List (Nat × Nat × α) → Option α
  | [] => none
  | (j, m, a) :: l => match Nat.beq i j && Nat.beq k m with
    | true => some a
    | false => look2 i k l
def tab : Tab := { idOf := fun f d => look d ((look f ids).getD []), alt := fun f d => look d ((look f alts).getD []), rid := fun f d => (look d ((look f rids).getD [])).getD [], byref := (fun f => inL f byrefs), frz := fun f => !(inL f rowfs), keep := fun f i => look2 f i keeps, join := fun f i => look2 f i joins, nid := fun f => (look f nids).getD 0 }
noncomputable abbrev gxs (spec : Gam) : Nat → Gam := gamN Go.Proofs.Try.prog tab 100000 spec
noncomputable abbrev gx : Nat → Gam := gxs (fun _ _ _ => none)
end Go.Proofs.Gv
