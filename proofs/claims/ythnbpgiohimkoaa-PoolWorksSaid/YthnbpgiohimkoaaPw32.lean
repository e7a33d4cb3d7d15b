import Derived.Test.YthnbpgiohimkoaaPw26
set_option linter.unusedVariables false
namespace Go.Proofs.Gv
abbrev LL : Type := List (List AV)
abbrev Sp : Type := List AV → List Blk → Option (Bool × AV × List Blk)
abbrev iA (x : Int) : AV := AV.int IntKind.i64 x
abbrev kI1 : List Kd := [Kd.int IntKind.i64]
abbrev kI2 : List Kd := [Kd.int IntKind.i64, Kd.int IntKind.i64]
abbrev kI4 : List Kd := [Kd.int IntKind.i64, Kd.int IntKind.i64, Kd.int IntKind.i64, Kd.int IntKind.i64]
abbrev kF : List Kd := [Kd.int IntKind.i64, Kd.int IntKind.i64, Kd.int IntKind.i64, Kd.int IntKind.i64, Kd.int IntKind.i64, Kd.int IntKind.i64, Kd.sl kI4]
abbrev bV (q lim : Int) (a b : Nat) (ready : List (List AV)) (t k : Int) : Blk := .var [iA q, iA lim, .rf a kI1, .mp b kF, .sl .imm kI2 ready, iA t, iA k]
abbrev bS (q lim : Int) (ready : List (List AV)) (t k : Int) (order es : List (List AV)) : List Blk := [bV q lim 1 2 ready t k, .row kI1 order, .tbl kF es none]
end Go.Proofs.Gv
