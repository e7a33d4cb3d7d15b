import Derived.Test.YtdickgcdjmhgiaaGgOut
import Derived.Test.YtdickgcdjmhgiaaGwC
namespace Go.Proofs.Gv
open Go.Proofs
set_option linter.unusedVariables false
theorem rd13_4t (lsp : Lsp) (gam : Gam) (es : List (List AV)) (a : Int) (b : Int) (es2 : List (List AV)) (a2 : Int) (b2 : Int) (i : Nat) : roundV (cfg Try.prog tab 100000 gam lsp 13 0 Try.f13.ntmps) (loopAt Try.f13 4) [2, 3, 5] [0, 1] [4] [] [.hp 0 0, .hp 1 0, .int .i64 (i : Int)] [.var [.sl .lent [.str] es, .int .i64 a, .int .i64 b], .var [.sl .imm [.str] es2, .int .i64 a2, .int .i64 b2]] = bif decide ((↑i : Int) < (↑es.length : Int)) then bif decide ((0 : Int) ≤ (↑i : Int)) && decide ((↑i : Int) < (↑es.length : Int)) then bif decide ((0 : Int) ≤ (↑i : Int)) && decide ((↑i : Int) < (↑es2.length : Int)) then bif !strOf ((es.getD (↑i : Int).toNat []).getD (0 : Nat) AV.junk) == strOf ((es2.getD (↑i : Int).toNat []).getD (0 : Nat) AV.junk) then some (Ex.ret, [AV.bool false], []) else some (Ex.norm, [AV.hp (nat_lit 0) (nat_lit 0), AV.hp (nat_lit 1) (nat_lit 0), AV.int IntKind.i64 (IntKind.i64.wrap ((↑i : Int) + (1 : Int)))], [Blk.var [AV.sl Tk.lent [Kd.str] es, AV.int IntKind.i64 a, AV.int IntKind.i64 b], Blk.var [AV.sl Tk.imm [Kd.str] es2, AV.int IntKind.i64 a2, AV.int IntKind.i64 b2]]) else none else none else some (Ex.exit (nat_lit 0), [AV.junk], []) := by kernel_rfl
end Go.Proofs.Gv
