import Derived.Test.YtgaadhlneglidaaGvZ
import Derived.Test.YtgaadhlneglidaaProg
namespace Go.Proofs.Gv
/- row functions: 27 (footman/aging.Queue).own, 42 slices.Clone[[]footman/aging.Req,footman/aging.Req] -/
/- by reference: 32 slices.Delete[[]footman/aging.Req,footman/aging.Req] -/
/- warning: footman/footmanlaw26.AgingOnce: loop 29: box in slot 9, part (2,): row 7 -/
/- warning: footman/footmanlaw26.AgingOnce: loop 29: box in slot 9, part (1,): row 8 -/
/- warning: footman/footmanlaw26.AgingOnce: loop 8: box in slot 9, part (2,): row 7 -/
/- warning: footman/footmanlaw26.AgingOnce: loop 8: box in slot 9, part (1,): row 8 -/
/- warning: footman/footmanlaw26.own: loop 3: box in slot 3, part (1,): row 4 -/
/- warning: footman/aging.Serve: loop 5: box in slot 7, part (1,): row 6 -/
/- warning: footman/footmanlaw26.back: loop 3: box in slot 3, part (1,): row 4 -/
def kd22 : List Kd := ((.int Go.IntKind.i64) :: ((.int Go.IntKind.i64) :: ((.int Go.IntKind.i64) :: ((.int Go.IntKind.i64) :: []))))
def kd29 : List Kd := ((.int Go.IntKind.i64) :: ((.int Go.IntKind.i64) :: ((.int Go.IntKind.i64) :: ((.int Go.IntKind.i64) :: []))))
def kd57 : List Kd := ((.int Go.IntKind.u8) :: [])
def kd58 : List Kd := ((.int Go.IntKind.i64) :: [])
def ids : List (Nat × List (Nat × Nat)) := [
  (3, [(3, 9), (4, 10), (7, 8), (8, 7), (10, 6), (12, 5), (14, 4), (16, 2), (17, 3), (19, 0), (20, 1)]),
  (4, [(3, 2), (4, 3), (7, 1), (9, 0)]),
  (5, [(7, 6), (9, 5), (12, 4), (14, 0), (15, 1), (103, 2), (107, 3)]),
  (6, [(3, 4), (7, 3), (12, 1), (13, 2), (15, 0)]),
  (7, [(1, 0)]),
  (8, [(1, 7), (5, 6), (8, 4), (9, 5), (11, 2), (12, 3), (14, 1), (16, 0)]),
  (9, [(1, 2), (2, 3), (3, 1), (23, 0)]),
  (10, [(4, 4), (8, 5), (10, 2), (11, 3), (46, 0)]),
  (11, [(4, 3), (8, 4), (11, 2), (46, 0), (49, 1)]),
  (12, [(2, 2), (4, 3), (6, 1)]),
  (13, [(2, 0), (4, 1)]),
  (14, [(2, 3), (4, 4), (5, 5), (7, 2), (11, 0)]),
  (15, [(2, 3), (4, 4), (5, 5), (11, 1), (12, 0), (26, 2)]),
  (16, [(2, 0), (3, 1)]),
  (17, [(1, 2), (2, 3), (3, 1), (23, 0)]),
  (18, [(2, 0)]),
  (19, [(2, 1), (4, 0)]),
  (20, [(1, 1), (5, 0)]),
  (21, [(1, 0)]),
  (22, [(1, 1), (5, 0)]),
  (23, [(1, 0)]),
  (24, [(1, 1), (4, 0)]),
  (25, [(1, 0)]),
  (26, [(2, 0), (3, 1)]),
  (27, [(1, 1), (2, 2)]),
  (28, [(1, 0)]),
  (29, [(2, 0), (3, 1)]),
  (30, [(1, 0)]),
  (31, [(2, 0)]),
  (32, [(26, 0)]),
  (33, [(2, 2), (4, 3), (13, 0), (19, 1)]),
  (35, [(2, 0)]),
  (37, [(4, 1), (5, 0)]),
  (38, [(2, 0), (3, 1)]),
  (40, [(1, 0)]),
  (42, [(5, 0), (7, 1)]),
  (43, [(2, 0)])]
def alts : List (Nat × List (Nat × Nat)) := [
  ]
def rids : List (Nat × List (Nat × List Nat)) := [
  (10, [(14, [1])]),
  (12, [(9, [0])]),
  (14, [(13, [1])]),
  (27, [(5, [0])])]
def byrefs : List Nat := [32]
def rowfs : List Nat := [27, 42]
def keeps : List (Nat × Nat × List Nat × List Nat × List Nrm) := [
  (5, 29, [1, 2, 9, 10, 14, 17], [0, 2, 3, 5, 7, 8], [.cell 5 2 8 kd58, .cell 5 3 7 kd58, .ren 2 7, .ren 3 8]),
  (5, 8, [1, 2, 9, 10], [2, 3, 5, 7, 8], [.cell 5 2 8 kd58, .cell 5 3 7 kd58, .ren 2 7, .ren 3 8]),
  (6, 14, [2, 7, 10, 11], [3], []),
  (6, 5, [1, 2, 7, 8], [3], []),
  (9, 3, [1, 2, 3, 4], [0, 1, 2, 3, 4], [.cell 1 1 4 kd29, .ren 0 4]),
  (14, 5, [1, 4, 5, 7, 8, 24, 25], [1, 2, 4, 5, 6], [.ren 1 6]),
  (15, 7, [1, 2, 4, 5, 7, 8, 9], [2, 3, 4, 5, 6], [.slot 8 6 kd22, .ren 2 6]),
  (16, 4, [2, 3, 5], [0, 1], []),
  (17, 3, [1, 2, 3, 4], [0, 1, 2, 3, 4], [.cell 1 1 4 kd29, .ren 0 4]),
  (21, 10, [1, 4, 5], [0], []),
  (21, 4, [1, 3], [0], []),
  (22, 5, [3, 10, 11, 12], [], []),
  (23, 3, [1, 3, 4], [0], []),
  (24, 8, [1, 20, 21, 22], [1], []),
  (25, 11, [1, 4], [0], []),
  (25, 6, [1, 3], [0], []),
  (31, 2, [1, 2, 5], [0], []),
  (36, 2, [0, 1, 7, 8], [], []),
  (37, 5, [0, 1, 4, 5, 6], [0, 1], []),
  (41, 4, [0, 1, 12, 13], [], [])]
def joins : List (Nat × Nat × List Nat) := [
  (3, 10, [6]),
  (4, 5, [6]),
  (4, 1, [18]),
  (5, 25, [198]),
  (5, 21, [153]),
  (5, 15, [92]),
  (5, 1, [25]),
  (6, 25, [6]),
  (6, 21, [134]),
  (6, 16, [98]),
  (6, 7, [66]),
  (6, 2, [37]),
  (8, 10, [0]),
  (12, 3, [19]),
  (13, 2, [16]),
  (14, 2, [21]),
  (15, 2, [20]),
  (16, 1, [19]),
  (20, 1, [14]),
  (21, 12, [49]),
  (23, 3, [14]),
  (25, 1, [5]),
  (26, 1, [4]),
  (28, 1, [2]),
  (30, 1, [2]),
  (34, 1, [6])]
def pres : List (Nat × Nat × List Nrm) := []
def nids : List (Nat × Nat) := [(3, 11), (4, 4), (5, 9), (6, 5), (7, 1), (8, 8), (9, 5), (10, 6), (11, 5), (12, 4), (13, 2), (14, 7), (15, 7), (16, 2), (17, 5), (18, 1), (19, 2), (20, 2), (21, 1), (22, 2), (23, 1), (24, 2), (25, 1), (26, 2), (27, 3), (28, 1), (29, 2), (30, 1), (31, 1), (32, 1), (33, 4), (35, 1), (37, 2), (38, 2), (40, 1), (42, 2), (43, 1)]
def look {α : Type} (i : Nat) : List (Nat × α) → Option α
  | [] => none
  | (j, a) :: l => match Nat.beq i j with
    | true => some a
    | false => look i l
def look2 {α : Type} (i k : Nat) : List (Nat × Nat × α) → Option α
  | [] => none
  | (j, m, a) :: l => match Nat.beq i j && Nat.beq k m with
    | true => some a
    | false => look2 i k l
def tab : Tab := { idOf := fun f d => look d ((look f ids).getD []), alt := fun f d => look d ((look f alts).getD []), rid := fun f d => (look d ((look f rids).getD [])).getD [], byref := (fun f => inL f byrefs), frz := fun f => !(inL f rowfs), keep := fun f i => look2 f i keeps, join := fun f i => look2 f i joins, nid := fun f => (look f nids).getD 0, pre := fun f i => (look2 f i pres).getD [] }
noncomputable abbrev gxs (spec : Gam) : Nat → Gam := gamN Go.Proofs.Try.prog tab 100000 spec
noncomputable abbrev gx : Nat → Gam := gxs (fun _ _ _ => none)
end Go.Proofs.Gv
