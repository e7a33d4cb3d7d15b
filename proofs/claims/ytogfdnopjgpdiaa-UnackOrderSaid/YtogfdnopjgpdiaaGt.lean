import Derived.Test.YtogfdnopjgpdiaaGvZ
import Derived.Test.YtogfdnopjgpdiaaProg
namespace Go.Proofs.Gv
/- row functions: 26 (footman/unack.Queue).own, 40 slices.Clone[footman/unack.Queue,footman/unack.Item] -/
/- by reference:  -/
/- not flowed: footman/unack.Least rangeFunc -/
/- not flowed: footman/unack.Greatest rangeFunc -/
def kd22 : List Kd := ((.sl ((.int Go.IntKind.u16) :: ((.int Go.IntKind.u32) :: []))) :: ((.int Go.IntKind.i64) :: []))
def kd23 : List Kd := ((.int Go.IntKind.u16) :: ((.int Go.IntKind.u32) :: []))
def kd26 : List Kd := ((.sl ((.int Go.IntKind.u16) :: ((.int Go.IntKind.u32) :: []))) :: ((.int Go.IntKind.i64) :: []))
def kd27 : List Kd := ((.sl ((.int Go.IntKind.u16) :: ((.int Go.IntKind.u32) :: []))) :: ((.int Go.IntKind.i64) :: []))
def kd53 : List Kd := ((.sl ((.int Go.IntKind.u16) :: ((.int Go.IntKind.u32) :: []))) :: [])
def kd73 : List Kd := ((.int Go.IntKind.i64) :: [])
def ids : List (Nat × List (Nat × Nat)) := [
  (4, [(5, 0)]),
  (5, [(66, 0)]),
  (9, [(17, 0)]),
  (10, [(55, 0)]),
  (11, [(51, 0), (58, 2)]),
  (13, [(12, 0)]),
  (15, [(17, 0)]),
  (21, [(5, 0)]),
  (23, [(5, 0)]),
  (28, [(5, 0), (7, 1)]),
  (31, [(1, 0)]),
  (32, [(1, 0)]),
  (34, [(2, 0), (3, 1)]),
  (35, [(2, 0), (3, 1)]),
  (36, [(47, 0)]),
  (37, [(8, 1), (9, 0)]),
  (38, [(2, 0), (3, 1)]),
  (40, [(5, 0), (7, 1)]),
  (42, [(5, 1), (7, 0)])]
def alts : List (Nat × List (Nat × Nat)) := [
  ]
def rids : List (Nat × List (Nat × List Nat)) := [
  (10, [(11, [1])]),
  (12, [(10, [0])]),
  (26, [(4, [0])])]
def byrefs : List Nat := []
def rowfs : List Nat := [26, 40]
def keeps : List (Nat × Nat × List Nat × List Nat × List Nrm) := [
  (5, 6, [0, 3, 4, 5], [0, 1], [.simm 3 kd27, .slot 4 1 kd53, .ren 0 1, .adv 4 1 kd53]),
  (7, 4, [0, 3], [], []),
  (9, 3, [0, 3, 4], [0, 1], [.slot 3 1 kd27, .ren 0 1]),
  (14, 4, [0, 1, 5], [], []),
  (15, 3, [0, 3, 4], [0, 1], [.slot 3 1 kd22, .ren 0 1]),
  (16, 4, [0, 1, 5], [], []),
  (18, 14, [0, 5], [], []),
  (18, 9, [0, 4], [], []),
  (18, 4, [0, 3], [], []),
  (22, 3, [2, 7, 8], [], []),
  (24, 3, [2, 7, 8], [], []),
  (33, 2, [0, 1, 5], [], []),
  (36, 6, [0, 1, 5, 6, 7], [0, 1], [.slot 5 1 kd73, .ren 0 1]),
  (36, 3, [0, 1, 5, 6], [0, 1], [.slot 5 1 kd73, .ren 0 1]),
  (37, 4, [1, 2, 15, 16, 17], [], []),
  (39, 4, [0, 1, 12, 13], [], []),
  (41, 2, [0, 1, 7, 8], [], []),
  (42, 4, [0, 2, 8, 9, 10, 15, 16, 17], [], []),
  (42, 1, [0, 2, 8, 9, 10], [], [])]
def joins : List (Nat × Nat × List Nat) := [
  (3, 8, [6]),
  (3, 1, [25]),
  (4, 4, [6]),
  (4, 1, [16]),
  (5, 23, [103]),
  (5, 12, [57]),
  (5, 18, [89]),
  (6, 8, [6]),
  (6, 6, [63]),
  (6, 2, [27]),
  (8, 6, [0]),
  (10, 9, [28]),
  (11, 8, [28]),
  (14, 6, [41]),
  (19, 1, [21]),
  (20, 1, [21]),
  (27, 1, [2]),
  (29, 1, [2]),
  (38, 1, [4]),
  (42, 6, [32])]
def pres : List (Nat × Nat × List Nrm) := []
def nids : List (Nat × Nat) := [(4, 1), (5, 2), (9, 2), (10, 2), (11, 3), (12, 1), (13, 1), (15, 2), (21, 1), (23, 1), (26, 1), (28, 2), (31, 1), (32, 1), (34, 2), (35, 2), (36, 2), (37, 2), (38, 2), (40, 2), (42, 2)]
def look {α : Type} (i : Nat) : List (Nat × α) → Option α
  | [] => none
  | (j, a) :: l => match Nat.beq i j with
    | true => some a
    | false => look i l
def look2 {α : Type} (i k : Nat) : List (Nat × Nat × α) → Option α
  | [] => none
  | (j, m, a) :: l => match Nat.beq i j && Nat.beq k m with
    | true => some a
    | false => look2 i k l
def tab : Tab := { idOf := fun f d => look d ((look f ids).getD []), alt := fun f d => look d ((look f alts).getD []), rid := fun f d => (look d ((look f rids).getD [])).getD [], byref := (fun f => inL f byrefs), frz := fun f => !(inL f rowfs), keep := fun f i => look2 f i keeps, join := fun f i => look2 f i joins, nid := fun f => (look f nids).getD 0, pre := fun f i => (look2 f i pres).getD [] }
noncomputable abbrev gxs (spec : Gam) : Nat → Gam := gamN Go.Proofs.Try.prog tab 100000 spec
noncomputable abbrev gx : Nat → Gam := gxs (fun _ _ _ => none)
end Go.Proofs.Gv
