import Derived.Test.YteomgnfnigflnaaGt
import Derived.KernelRfl
import Derived.Test.YteomgnfnigflnaaGwF
import Derived.Test.YteomgnfnigflnaaGgTag
namespace Go.Proofs.Gv
open Go.Proofs
set_option linter.unusedVariables false
noncomputable def go18t_4 (t17k : Tk) (t17 : List (List AV)) (t18 : Int) (t19 : Int) (b3 : List (List AV)) (b4 : List (List AV)) : Bool := bif decide (t19 < t18) then bif decide ((0 : Int) ≤ t19) && decide (t19 < (↑t17.length : Int)) then bif vev24_1 Tk.lent b4 then bif bif decide (vev24_0 Tk.lent b4 ≥ (0 : Int)) then decide (intOf ((t17.getD t19.toNat []).getD (0 : Nat) AV.junk) > (0 : Int)) else false then bif decide ((0 : Int) ≤ vev24_0 Tk.lent b4) && decide (vev24_0 Tk.lent b4 < (↑b4.length : Int)) then bif vev7_5 (0 : Int) (intOf ((b4.getD (vev24_0 Tk.lent b4).toNat []).getD (0 : Nat) AV.junk)) (intOf ((b4.getD (vev24_0 Tk.lent b4).toNat []).getD ((0 : Nat) + (1 : Nat)) AV.junk)) (intOf ((b4.getD (vev24_0 Tk.lent b4).toNat []).getD ((0 : Nat) + (1 : Nat) + (1 : Nat)) AV.junk)) (intOf ((b4.getD (vev24_0 Tk.lent b4).toNat []).getD ((0 : Nat) + (1 : Nat) + (1 : Nat) + (1 : Nat)) AV.junk)) (intOf ((t17.getD t19.toNat []).getD (0 : Nat) AV.junk)) then bif decide ((b3.length + (1 : Nat)) * (8 : Nat) ≤ (140737488355328 : Nat)) then decide (b3.length + (1 : Nat) ≤ (9223372036854775807 : Nat)) else false else false else false else bif decide ((b3.length + (1 : Nat)) * (8 : Nat) ≤ (140737488355328 : Nat)) then decide (b3.length + (1 : Nat) ≤ (9223372036854775807 : Nat)) else false else false else false else false
noncomputable def nx18t_4_3 (t17k : Tk) (t17 : List (List AV)) (t18 : Int) (t19 : Int) (b3 : List (List AV)) (b4 : List (List AV)) : Int := IntKind.i64.wrap (t19 + (1 : Int))
noncomputable def nx18t_4_4 (t17k : Tk) (t17 : List (List AV)) (t18 : Int) (t19 : Int) (b3 : List (List AV)) (b4 : List (List AV)) : List (List AV) := bif bif decide (vev24_0 Tk.lent b4 ≥ (0 : Int)) then decide (intOf ((t17.getD t19.toNat []).getD (0 : Nat) AV.junk) > (0 : Int)) else false then bif vev7_4 (0 : Int) (intOf ((b4.getD (vev24_0 Tk.lent b4).toNat []).getD (0 : Nat) AV.junk)) (intOf ((b4.getD (vev24_0 Tk.lent b4).toNat []).getD ((0 : Nat) + (1 : Nat)) AV.junk)) (intOf ((b4.getD (vev24_0 Tk.lent b4).toNat []).getD ((0 : Nat) + (1 : Nat) + (1 : Nat)) AV.junk)) (intOf ((b4.getD (vev24_0 Tk.lent b4).toNat []).getD ((0 : Nat) + (1 : Nat) + (1 : Nat) + (1 : Nat)) AV.junk)) (intOf ((t17.getD t19.toNat []).getD (0 : Nat) AV.junk)) != (0 : Int) then b3 ++ [[AV.int IntKind.i64 (-1 : Int)]] else b3 ++ [[AV.int IntKind.i64 (vev24_0 Tk.lent b4)]] else b3 ++ [[AV.int IntKind.i64 (-1 : Int)]]
noncomputable def nx18t_4_5 (t17k : Tk) (t17 : List (List AV)) (t18 : Int) (t19 : Int) (b3 : List (List AV)) (b4 : List (List AV)) : List (List AV) := bif bif decide (vev24_0 Tk.lent b4 ≥ (0 : Int)) then decide (intOf ((t17.getD t19.toNat []).getD (0 : Nat) AV.junk) > (0 : Int)) else false then b4.set (vev24_0 Tk.lent b4).toNat [AV.int IntKind.i64 (intOf ((b4.getD (vev24_0 Tk.lent b4).toNat []).getD (0 : Nat) AV.junk)), AV.int IntKind.i64 (vev7_1 (0 : Int) (intOf ((b4.getD (vev24_0 Tk.lent b4).toNat []).getD (0 : Nat) AV.junk)) (intOf ((b4.getD (vev24_0 Tk.lent b4).toNat []).getD ((0 : Nat) + (1 : Nat)) AV.junk)) (intOf ((b4.getD (vev24_0 Tk.lent b4).toNat []).getD ((0 : Nat) + (1 : Nat) + (1 : Nat)) AV.junk)) (intOf ((b4.getD (vev24_0 Tk.lent b4).toNat []).getD ((0 : Nat) + (1 : Nat) + (1 : Nat) + (1 : Nat)) AV.junk)) (intOf ((t17.getD t19.toNat []).getD (0 : Nat) AV.junk))), AV.int IntKind.i64 (vev7_2 (0 : Int) (intOf ((b4.getD (vev24_0 Tk.lent b4).toNat []).getD (0 : Nat) AV.junk)) (intOf ((b4.getD (vev24_0 Tk.lent b4).toNat []).getD ((0 : Nat) + (1 : Nat)) AV.junk)) (intOf ((b4.getD (vev24_0 Tk.lent b4).toNat []).getD ((0 : Nat) + (1 : Nat) + (1 : Nat)) AV.junk)) (intOf ((b4.getD (vev24_0 Tk.lent b4).toNat []).getD ((0 : Nat) + (1 : Nat) + (1 : Nat) + (1 : Nat)) AV.junk)) (intOf ((t17.getD t19.toNat []).getD (0 : Nat) AV.junk))), AV.int IntKind.i64 (vev7_3 (0 : Int) (intOf ((b4.getD (vev24_0 Tk.lent b4).toNat []).getD (0 : Nat) AV.junk)) (intOf ((b4.getD (vev24_0 Tk.lent b4).toNat []).getD ((0 : Nat) + (1 : Nat)) AV.junk)) (intOf ((b4.getD (vev24_0 Tk.lent b4).toNat []).getD ((0 : Nat) + (1 : Nat) + (1 : Nat)) AV.junk)) (intOf ((b4.getD (vev24_0 Tk.lent b4).toNat []).getD ((0 : Nat) + (1 : Nat) + (1 : Nat) + (1 : Nat)) AV.junk)) (intOf ((t17.getD t19.toNat []).getD (0 : Nat) AV.junk)))] else b4
noncomputable def xc18t_4_0 (t17k : Tk) (t17 : List (List AV)) (t18 : Int) (t19 : Int) (b3 : List (List AV)) (b4 : List (List AV)) : Bool := bif decide (t19 < t18) then false else true
theorem rd18t_4 (rest : Lsp) (t17k : Tk) (t17 : List (List AV)) (t18 : Int) (t19 : Int) (b3 : List (List AV)) (b4 : List (List AV)) : roundV (cfg Try.prog tab 100000 (gk k20 30) rest 18 0 Try.f18.ntmps) (loopAt Try.f18 4) [6, 7, 17, 18, 19] [0, 2, 3, 4] [6, 7] [0, 2, 3, 4] [AV.rf (nat_lit 4) [Kd.int IntKind.i64, Kd.int IntKind.i64, Kd.int IntKind.i64, Kd.int IntKind.i64], AV.rf (nat_lit 3) [Kd.int IntKind.i64], AV.sl t17k [Kd.int IntKind.i64] t17, AV.int IntKind.i64 t18, AV.int IntKind.i64 t19] [Blk.dead, Blk.dead, Blk.row [Kd.int IntKind.i64] b3, Blk.row [Kd.int IntKind.i64, Kd.int IntKind.i64, Kd.int IntKind.i64, Kd.int IntKind.i64] b4] = bif go18t_4 t17k t17 t18 t19 b3 b4 then some (Ex.norm, [AV.rf (nat_lit 4) [Kd.int IntKind.i64, Kd.int IntKind.i64, Kd.int IntKind.i64, Kd.int IntKind.i64], AV.rf (nat_lit 3) [Kd.int IntKind.i64], AV.sl t17k [Kd.int IntKind.i64] t17, AV.int IntKind.i64 t18, AV.int IntKind.i64 (nx18t_4_3 t17k t17 t18 t19 b3 b4)], [Blk.dead, Blk.dead, Blk.row [Kd.int IntKind.i64] (nx18t_4_4 t17k t17 t18 t19 b3 b4), Blk.row [Kd.int IntKind.i64, Kd.int IntKind.i64, Kd.int IntKind.i64, Kd.int IntKind.i64] (nx18t_4_5 t17k t17 t18 t19 b3 b4)]) else bif xc18t_4_0 t17k t17 t18 t19 b3 b4 then some (Ex.exit (nat_lit 0), [AV.rf (nat_lit 4) [Kd.int IntKind.i64, Kd.int IntKind.i64, Kd.int IntKind.i64, Kd.int IntKind.i64], AV.rf (nat_lit 3) [Kd.int IntKind.i64]], [Blk.dead, Blk.dead, Blk.row [Kd.int IntKind.i64] b3, Blk.row [Kd.int IntKind.i64, Kd.int IntKind.i64, Kd.int IntKind.i64, Kd.int IntKind.i64] b4]) else none := by
  have h : roundV (cfg Try.prog tab 100000 (gk k20 30) rest 18 0 Try.f18.ntmps) (loopAt Try.f18 4) [6, 7, 17, 18, 19] [0, 2, 3, 4] [6, 7] [0, 2, 3, 4] [AV.rf (nat_lit 4) [Kd.int IntKind.i64, Kd.int IntKind.i64, Kd.int IntKind.i64, Kd.int IntKind.i64], AV.rf (nat_lit 3) [Kd.int IntKind.i64], AV.sl t17k [Kd.int IntKind.i64] t17, AV.int IntKind.i64 t18, AV.int IntKind.i64 t19] [Blk.dead, Blk.dead, Blk.row [Kd.int IntKind.i64] b3, Blk.row [Kd.int IntKind.i64, Kd.int IntKind.i64, Kd.int IntKind.i64, Kd.int IntKind.i64] b4] = bif decide (t19 < t18) then bif decide ((0 : Int) ≤ t19) && decide (t19 < (↑t17.length : Int)) then bif vev24_1 Tk.lent b4 then bif bif decide (vev24_0 Tk.lent b4 ≥ (0 : Int)) then true else true then bif bif decide (vev24_0 Tk.lent b4 ≥ (0 : Int)) then bif true then decide (intOf ((t17.getD t19.toNat []).getD (0 : Nat) AV.junk) > (0 : Int)) else false else false then bif decide ((0 : Int) ≤ vev24_0 Tk.lent b4) && decide (vev24_0 Tk.lent b4 < (↑b4.length : Int)) then bif vev7_5 (0 : Int) (intOf ((b4.getD (vev24_0 Tk.lent b4).toNat []).getD (0 : Nat) AV.junk)) (intOf ((b4.getD (vev24_0 Tk.lent b4).toNat []).getD ((0 : Nat) + (1 : Nat)) AV.junk)) (intOf ((b4.getD (vev24_0 Tk.lent b4).toNat []).getD ((0 : Nat) + (1 : Nat) + (1 : Nat)) AV.junk)) (intOf ((b4.getD (vev24_0 Tk.lent b4).toNat []).getD ((0 : Nat) + (1 : Nat) + (1 : Nat) + (1 : Nat)) AV.junk)) (intOf ((t17.getD t19.toNat []).getD (0 : Nat) AV.junk)) then bif vev7_4 (0 : Int) (intOf ((b4.getD (vev24_0 Tk.lent b4).toNat []).getD (0 : Nat) AV.junk)) (intOf ((b4.getD (vev24_0 Tk.lent b4).toNat []).getD ((0 : Nat) + (1 : Nat)) AV.junk)) (intOf ((b4.getD (vev24_0 Tk.lent b4).toNat []).getD ((0 : Nat) + (1 : Nat) + (1 : Nat)) AV.junk)) (intOf ((b4.getD (vev24_0 Tk.lent b4).toNat []).getD ((0 : Nat) + (1 : Nat) + (1 : Nat) + (1 : Nat)) AV.junk)) (intOf ((t17.getD t19.toNat []).getD (0 : Nat) AV.junk)) != (0 : Int) then bif bif decide ((b3.length + (1 : Nat)) * (8 : Nat) ≤ (140737488355328 : Nat)) then decide (b3.length + (1 : Nat) ≤ (9223372036854775807 : Nat)) else false then some (Ex.norm, [AV.rf (nat_lit 4) [Kd.int IntKind.i64, Kd.int IntKind.i64, Kd.int IntKind.i64, Kd.int IntKind.i64], AV.rf (nat_lit 3) [Kd.int IntKind.i64], AV.sl t17k [Kd.int IntKind.i64] t17, AV.int IntKind.i64 t18, AV.int IntKind.i64 (IntKind.i64.wrap (t19 + (1 : Int)))], [Blk.dead, Blk.dead, Blk.row [Kd.int IntKind.i64] (b3 ++ [[AV.int IntKind.i64 (-1 : Int)]]), Blk.row [Kd.int IntKind.i64, Kd.int IntKind.i64, Kd.int IntKind.i64, Kd.int IntKind.i64] (b4.set (vev24_0 Tk.lent b4).toNat [AV.int IntKind.i64 (intOf ((b4.getD (vev24_0 Tk.lent b4).toNat []).getD (0 : Nat) AV.junk)), AV.int IntKind.i64 (vev7_1 (0 : Int) (intOf ((b4.getD (vev24_0 Tk.lent b4).toNat []).getD (0 : Nat) AV.junk)) (intOf ((b4.getD (vev24_0 Tk.lent b4).toNat []).getD ((0 : Nat) + (1 : Nat)) AV.junk)) (intOf ((b4.getD (vev24_0 Tk.lent b4).toNat []).getD ((0 : Nat) + (1 : Nat) + (1 : Nat)) AV.junk)) (intOf ((b4.getD (vev24_0 Tk.lent b4).toNat []).getD ((0 : Nat) + (1 : Nat) + (1 : Nat) + (1 : Nat)) AV.junk)) (intOf ((t17.getD t19.toNat []).getD (0 : Nat) AV.junk))), AV.int IntKind.i64 (vev7_2 (0 : Int) (intOf ((b4.getD (vev24_0 Tk.lent b4).toNat []).getD (0 : Nat) AV.junk)) (intOf ((b4.getD (vev24_0 Tk.lent b4).toNat []).getD ((0 : Nat) + (1 : Nat)) AV.junk)) (intOf ((b4.getD (vev24_0 Tk.lent b4).toNat []).getD ((0 : Nat) + (1 : Nat) + (1 : Nat)) AV.junk)) (intOf ((b4.getD (vev24_0 Tk.lent b4).toNat []).getD ((0 : Nat) + (1 : Nat) + (1 : Nat) + (1 : Nat)) AV.junk)) (intOf ((t17.getD t19.toNat []).getD (0 : Nat) AV.junk))), AV.int IntKind.i64 (vev7_3 (0 : Int) (intOf ((b4.getD (vev24_0 Tk.lent b4).toNat []).getD (0 : Nat) AV.junk)) (intOf ((b4.getD (vev24_0 Tk.lent b4).toNat []).getD ((0 : Nat) + (1 : Nat)) AV.junk)) (intOf ((b4.getD (vev24_0 Tk.lent b4).toNat []).getD ((0 : Nat) + (1 : Nat) + (1 : Nat)) AV.junk)) (intOf ((b4.getD (vev24_0 Tk.lent b4).toNat []).getD ((0 : Nat) + (1 : Nat) + (1 : Nat) + (1 : Nat)) AV.junk)) (intOf ((t17.getD t19.toNat []).getD (0 : Nat) AV.junk)))])]) else none else bif bif decide ((b3.length + (1 : Nat)) * (8 : Nat) ≤ (140737488355328 : Nat)) then decide (b3.length + (1 : Nat) ≤ (9223372036854775807 : Nat)) else false then some (Ex.norm, [AV.rf (nat_lit 4) [Kd.int IntKind.i64, Kd.int IntKind.i64, Kd.int IntKind.i64, Kd.int IntKind.i64], AV.rf (nat_lit 3) [Kd.int IntKind.i64], AV.sl t17k [Kd.int IntKind.i64] t17, AV.int IntKind.i64 t18, AV.int IntKind.i64 (IntKind.i64.wrap (t19 + (1 : Int)))], [Blk.dead, Blk.dead, Blk.row [Kd.int IntKind.i64] (b3 ++ [[AV.int IntKind.i64 (vev24_0 Tk.lent b4)]]), Blk.row [Kd.int IntKind.i64, Kd.int IntKind.i64, Kd.int IntKind.i64, Kd.int IntKind.i64] (b4.set (vev24_0 Tk.lent b4).toNat [AV.int IntKind.i64 (intOf ((b4.getD (vev24_0 Tk.lent b4).toNat []).getD (0 : Nat) AV.junk)), AV.int IntKind.i64 (vev7_1 (0 : Int) (intOf ((b4.getD (vev24_0 Tk.lent b4).toNat []).getD (0 : Nat) AV.junk)) (intOf ((b4.getD (vev24_0 Tk.lent b4).toNat []).getD ((0 : Nat) + (1 : Nat)) AV.junk)) (intOf ((b4.getD (vev24_0 Tk.lent b4).toNat []).getD ((0 : Nat) + (1 : Nat) + (1 : Nat)) AV.junk)) (intOf ((b4.getD (vev24_0 Tk.lent b4).toNat []).getD ((0 : Nat) + (1 : Nat) + (1 : Nat) + (1 : Nat)) AV.junk)) (intOf ((t17.getD t19.toNat []).getD (0 : Nat) AV.junk))), AV.int IntKind.i64 (vev7_2 (0 : Int) (intOf ((b4.getD (vev24_0 Tk.lent b4).toNat []).getD (0 : Nat) AV.junk)) (intOf ((b4.getD (vev24_0 Tk.lent b4).toNat []).getD ((0 : Nat) + (1 : Nat)) AV.junk)) (intOf ((b4.getD (vev24_0 Tk.lent b4).toNat []).getD ((0 : Nat) + (1 : Nat) + (1 : Nat)) AV.junk)) (intOf ((b4.getD (vev24_0 Tk.lent b4).toNat []).getD ((0 : Nat) + (1 : Nat) + (1 : Nat) + (1 : Nat)) AV.junk)) (intOf ((t17.getD t19.toNat []).getD (0 : Nat) AV.junk))), AV.int IntKind.i64 (vev7_3 (0 : Int) (intOf ((b4.getD (vev24_0 Tk.lent b4).toNat []).getD (0 : Nat) AV.junk)) (intOf ((b4.getD (vev24_0 Tk.lent b4).toNat []).getD ((0 : Nat) + (1 : Nat)) AV.junk)) (intOf ((b4.getD (vev24_0 Tk.lent b4).toNat []).getD ((0 : Nat) + (1 : Nat) + (1 : Nat)) AV.junk)) (intOf ((b4.getD (vev24_0 Tk.lent b4).toNat []).getD ((0 : Nat) + (1 : Nat) + (1 : Nat) + (1 : Nat)) AV.junk)) (intOf ((t17.getD t19.toNat []).getD (0 : Nat) AV.junk)))])]) else none else none else none else bif bif decide ((b3.length + (1 : Nat)) * (8 : Nat) ≤ (140737488355328 : Nat)) then decide (b3.length + (1 : Nat) ≤ (9223372036854775807 : Nat)) else false then some (Ex.norm, [AV.rf (nat_lit 4) [Kd.int IntKind.i64, Kd.int IntKind.i64, Kd.int IntKind.i64, Kd.int IntKind.i64], AV.rf (nat_lit 3) [Kd.int IntKind.i64], AV.sl t17k [Kd.int IntKind.i64] t17, AV.int IntKind.i64 t18, AV.int IntKind.i64 (IntKind.i64.wrap (t19 + (1 : Int)))], [Blk.dead, Blk.dead, Blk.row [Kd.int IntKind.i64] (b3 ++ [[AV.int IntKind.i64 (-1 : Int)]]), Blk.row [Kd.int IntKind.i64, Kd.int IntKind.i64, Kd.int IntKind.i64, Kd.int IntKind.i64] b4]) else none else none else none else none else some (Ex.exit (nat_lit 0), [AV.rf (nat_lit 4) [Kd.int IntKind.i64, Kd.int IntKind.i64, Kd.int IntKind.i64, Kd.int IntKind.i64], AV.rf (nat_lit 3) [Kd.int IntKind.i64]], [Blk.dead, Blk.dead, Blk.row [Kd.int IntKind.i64] b3, Blk.row [Kd.int IntKind.i64, Kd.int IntKind.i64, Kd.int IntKind.i64, Kd.int IntKind.i64] b4]) := by kernel_rfl
  rw [h]
  clear h
  unfold go18t_4 nx18t_4_3 nx18t_4_4 nx18t_4_5 xc18t_4_0
  generalize (vev7_4 (0 : Int) (intOf ((b4.getD (vev24_0 Tk.lent b4).toNat []).getD (0 : Nat) AV.junk)) (intOf ((b4.getD (vev24_0 Tk.lent b4).toNat []).getD ((0 : Nat) + (1 : Nat)) AV.junk)) (intOf ((b4.getD (vev24_0 Tk.lent b4).toNat []).getD ((0 : Nat) + (1 : Nat) + (1 : Nat)) AV.junk)) (intOf ((b4.getD (vev24_0 Tk.lent b4).toNat []).getD ((0 : Nat) + (1 : Nat) + (1 : Nat) + (1 : Nat)) AV.junk)) (intOf ((t17.getD t19.toNat []).getD (0 : Nat) AV.junk)) != (0 : Int)) = c0
  generalize (vev7_5 (0 : Int) (intOf ((b4.getD (vev24_0 Tk.lent b4).toNat []).getD (0 : Nat) AV.junk)) (intOf ((b4.getD (vev24_0 Tk.lent b4).toNat []).getD ((0 : Nat) + (1 : Nat)) AV.junk)) (intOf ((b4.getD (vev24_0 Tk.lent b4).toNat []).getD ((0 : Nat) + (1 : Nat) + (1 : Nat)) AV.junk)) (intOf ((b4.getD (vev24_0 Tk.lent b4).toNat []).getD ((0 : Nat) + (1 : Nat) + (1 : Nat) + (1 : Nat)) AV.junk)) (intOf ((t17.getD t19.toNat []).getD (0 : Nat) AV.junk))) = c1
  generalize (decide ((b3.length + (1 : Nat)) * (8 : Nat) ≤ (140737488355328 : Nat))) = c2
  generalize (decide (intOf ((t17.getD t19.toNat []).getD (0 : Nat) AV.junk) > (0 : Int))) = c3
  generalize (decide (b3.length + (1 : Nat) ≤ (9223372036854775807 : Nat))) = c4
  generalize (decide ((0 : Int) ≤ vev24_0 Tk.lent b4) && decide (vev24_0 Tk.lent b4 < (↑b4.length : Int))) = c5
  generalize (decide ((0 : Int) ≤ t19) && decide (t19 < (↑t17.length : Int))) = c6
  generalize (decide (vev24_0 Tk.lent b4 ≥ (0 : Int))) = c7
  generalize (decide (t19 < t18)) = c8
  generalize (vev24_1 Tk.lent b4) = c9
  cases c8
  · skip
    rfl
  · skip
    cases c6
    · skip
      rfl
    · skip
      cases c9
      · skip
        rfl
      · skip
        cases c7
        · skip
          cases c2
          · skip
            rfl
          · skip
            cases c4
            · skip
              rfl
            · skip
              rfl
        · skip
          cases c3
          · skip
            cases c2
            · skip
              rfl
            · skip
              cases c4
              · skip
                rfl
              · skip
                rfl
          · skip
            cases c5
            · skip
              rfl
            · skip
              cases c1
              · skip
                rfl
              · skip
                cases c0
                · skip
                  cases c2
                  · skip
                    rfl
                  · skip
                    cases c4
                    · skip
                      rfl
                    · skip
                      rfl
                · skip
                  cases c2
                  · skip
                    rfl
                  · skip
                    cases c4
                    · skip
                      rfl
                    · skip
                      rfl
abbrev pl18t_4 : Type := Tk × (List (List AV)) × Int
abbrev sl18t_4 : Type := Int × (List (List AV)) × (List (List AV))
noncomputable def vt18t_4 (a : pl18t_4 × sl18t_4) : List AV := [AV.rf (nat_lit 4) [Kd.int IntKind.i64, Kd.int IntKind.i64, Kd.int IntKind.i64, Kd.int IntKind.i64], AV.rf (nat_lit 3) [Kd.int IntKind.i64], AV.sl a.1.1 [Kd.int IntKind.i64] a.1.2.1, AV.int IntKind.i64 a.1.2.2, AV.int IntKind.i64 a.2.1]
noncomputable def vc18t_4 (a : pl18t_4 × sl18t_4) : List Blk := [Blk.dead, Blk.dead, Blk.row [Kd.int IntKind.i64] a.2.2.1, Blk.row [Kd.int IntKind.i64, Kd.int IntKind.i64, Kd.int IntKind.i64, Kd.int IntKind.i64] a.2.2.2]
noncomputable def de18t_4 (vt : List AV) (vc : List Blk) : Option (pl18t_4 × sl18t_4) :=
  match vt with
  | [qa0, qa1, qa2, qa3, qa4] => (match vc with
  | [qb0, qb1, qb2, qb3] => (match qa0 with
  | AV.rf (4) [Kd.int IntKind.i64, Kd.int IntKind.i64, Kd.int IntKind.i64, Kd.int IntKind.i64] => (match qa1 with
  | AV.rf (3) [Kd.int IntKind.i64] => (match qa2 with
  | AV.sl t17k [Kd.int IntKind.i64] t17 => (match qa3 with
  | AV.int IntKind.i64 t18 => (match qa4 with
  | AV.int IntKind.i64 t19 => (match qb0 with
  | Blk.dead => (match qb1 with
  | Blk.dead => (match qb2 with
  | Blk.row [Kd.int IntKind.i64] b3 => (match qb3 with
  | Blk.row [Kd.int IntKind.i64, Kd.int IntKind.i64, Kd.int IntKind.i64, Kd.int IntKind.i64] b4 => (some ((t17k, t17, t18), (t19, b3, b4)))
  | _ => none)
  | _ => none)
  | _ => none)
  | _ => none)
  | _ => none)
  | _ => none)
  | _ => none)
  | _ => none)
  | _ => none)
  | _ => none)
  | _ => none
theorem de18t_4_ok (vt : List AV) (vc : List Blk) (a : pl18t_4 × sl18t_4) (h : de18t_4 vt vc = some a) : vt = vt18t_4 a ∧ vc = vc18t_4 a := by
  unfold de18t_4 at h
  split at h
  rotate_left
  · cases h
  split at h
  rotate_left
  · cases h
  split at h
  rotate_left
  · cases h
  split at h
  rotate_left
  · cases h
  split at h
  rotate_left
  · cases h
  split at h
  rotate_left
  · cases h
  split at h
  rotate_left
  · cases h
  split at h
  rotate_left
  · cases h
  split at h
  rotate_left
  · cases h
  split at h
  rotate_left
  · cases h
  split at h
  rotate_left
  · cases h
  injection h with h
  subst h
  exact ⟨rfl, rfl⟩
noncomputable def g18t_4 (p : pl18t_4) (s : sl18t_4) : Bool := go18t_4 p.1 p.2.1 p.2.2 s.1 s.2.1 s.2.2
noncomputable def n18t_4 (p : pl18t_4) (s : sl18t_4) : sl18t_4 := (nx18t_4_3 p.1 p.2.1 p.2.2 s.1 s.2.1 s.2.2, nx18t_4_4 p.1 p.2.1 p.2.2 s.1 s.2.1 s.2.2, nx18t_4_5 p.1 p.2.1 p.2.2 s.1 s.2.1 s.2.2)
noncomputable def y18t_4 (p : pl18t_4) (s : sl18t_4) : List (Bool × Out) := []
noncomputable def z18t_4 (p : pl18t_4) (s : sl18t_4) : Bool := xc18t_4_0 p.1 p.2.1 p.2.2 s.1 s.2.1 s.2.2
noncomputable def d18t_4 (p : pl18t_4) (s : sl18t_4) : Out := (Ex.exit (nat_lit 0), [AV.rf (nat_lit 4) [Kd.int IntKind.i64, Kd.int IntKind.i64, Kd.int IntKind.i64, Kd.int IntKind.i64], AV.rf (nat_lit 3) [Kd.int IntKind.i64]], [Blk.dead, Blk.dead, Blk.row [Kd.int IntKind.i64] s.2.1, Blk.row [Kd.int IntKind.i64, Kd.int IntKind.i64, Kd.int IntKind.i64, Kd.int IntKind.i64] s.2.2])
noncomputable def ls18t_4 : St → Option (Bool × List (Bool × Ex × St) × Ex × St) := lspOf [6, 7, 17, 18, 19] [0, 2, 3, 4] [6, 7] [0, 2, 3, 4] Try.f18.ntmps (0 + tab.nid 18) de18t_4 (spI g18t_4 n18t_4 y18t_4 z18t_4 d18t_4)
theorem lo18t_4 (rest : Lsp) : LoopOK1 (cfg Try.prog tab 100000 (gk k20 30) (selL 4 ls18t_4 rest) 18 0 Try.f18.ntmps) (loopAt Try.f18 4) := LoopOK1.iter (i := 4) (by kernel_rfl) [6, 7, 17, 18, 19] [0, 2, 3, 4] [6, 7] [0, 2, 3, 4] vt18t_4 vc18t_4 de18t_4 g18t_4 n18t_4 y18t_4 z18t_4 d18t_4 (fun _ => rfl) de18t_4_ok (fun p s => rd18t_4 (selL 4 ls18t_4 rest) (p.1) (p.2.1) (p.2.2) (s.1) (s.2.1) (s.2.2)) (fun _ _ => rfl)
noncomputable def lsp18t : Lsp := (selL 4 ls18t_4 noLsp)
theorem loops18t : ∀ c, Try.f18.body = some c → LoopsOK (cfg Try.prog tab 100000 (gk k20 30) lsp18t 18 ([] : List Blk).length Try.f18.ntmps) c := loops_of [4] (by kernel_rfl) (by kernel_rfl) (fun i hi => by
  simp only [List.mem_cons, List.not_mem_nil, or_false] at hi
  subst hi
  · exact lo18t_4 noLsp)
noncomputable def vev18t_0 (t1 : Tk) (t2 : Tk) (es : List (List AV)) (cs : List (List AV)) : List (List AV) := (finL (g18t_4 (t2, cs, (↑cs.length : Int))) (n18t_4 (t2, cs, (↑cs.length : Int))) ((0 : Int), [], es)).snd.snd
noncomputable def vev18t_1 (t1 : Tk) (t2 : Tk) (es : List (List AV)) (cs : List (List AV)) : List (List AV) := (finL (g18t_4 (t2, cs, (↑cs.length : Int))) (n18t_4 (t2, cs, (↑cs.length : Int))) ((0 : Int), [], es)).snd.fst
noncomputable def vev18t_2 (t1 : Tk) (t2 : Tk) (es : List (List AV)) (cs : List (List AV)) : Bool := bif (es.length * (32 : Nat)).ble (140737488355328 : Nat) then bif (spI g18t_4 n18t_4 y18t_4 z18t_4 d18t_4 ((t2, cs, (↑cs.length : Int)), (0 : Int), [], es)).fst then true else false else false
theorem ev18t (t1 : Tk) (t2 : Tk) (es : List (List AV)) (cs : List (List AV)) : evFin (cfg Try.prog tab 100000 (gk k20 30) lsp18t 18 ([] : List Blk).length Try.f18.ntmps) ([] : List Blk).length Try.f18.resultTypes.toList Try.f18 [.sl t1 [.int .i64, .int .i64, .int .i64, .int .i64] es, .sl t2 [.int .i64] cs] [] = bif vev18t_2 t1 t2 es cs then some (true, AV.tup [AV.sl Tk.imm [Kd.int IntKind.i64, Kd.int IntKind.i64, Kd.int IntKind.i64, Kd.int IntKind.i64] (vev18t_0 t1 t2 es cs), AV.sl Tk.imm [Kd.int IntKind.i64] (vev18t_1 t1 t2 es cs)], []) else none := by
  have h : evFin (cfg Try.prog tab 100000 (gk k20 30) lsp18t 18 ([] : List Blk).length Try.f18.ntmps) ([] : List Blk).length Try.f18.resultTypes.toList Try.f18 [.sl t1 [.int .i64, .int .i64, .int .i64, .int .i64] es, .sl t2 [.int .i64] cs] [] = bif (es.length * (32 : Nat)).ble (140737488355328 : Nat) then bif (spI g18t_4 n18t_4 y18t_4 z18t_4 d18t_4 ((t2, cs, (↑cs.length : Int)), (0 : Int), [], es)).fst then some (true, AV.tup [AV.sl Tk.imm [Kd.int IntKind.i64, Kd.int IntKind.i64, Kd.int IntKind.i64, Kd.int IntKind.i64] (finL (g18t_4 (t2, cs, (↑cs.length : Int))) (n18t_4 (t2, cs, (↑cs.length : Int))) ((0 : Int), [], es)).snd.snd, AV.sl Tk.imm [Kd.int IntKind.i64] (finL (g18t_4 (t2, cs, (↑cs.length : Int))) (n18t_4 (t2, cs, (↑cs.length : Int))) ((0 : Int), [], es)).snd.fst], []) else none else none := by kernel_rfl
  rw [h]
  clear h
  unfold vev18t_0 vev18t_1 vev18t_2
  generalize ((spI g18t_4 n18t_4 y18t_4 z18t_4 d18t_4 ((t2, cs, (↑cs.length : Int)), (0 : Int), [], es)).fst) = c0
  generalize ((es.length * (32 : Nat)).ble (140737488355328 : Nat)) = c1
  cases c1
  · skip
    rfl
  · skip
    cases c0
    · skip
      rfl
    · skip
      rfl
-- spec vev18t_2 t1 t2 es cs ;; (true, AV.tup [AV.sl Tk.imm [Kd.int IntKind.i64, Kd.int IntKind.i64, Kd.int IntKind.i64, Kd.int IntKind.i64] (vev18t_0 t1 t2 es cs), AV.sl Tk.imm [Kd.int IntKind.i64] (vev18t_1 t1 t2 es cs)], [])
noncomputable def sp18t : List AV → List Blk → Option (Bool × AV × List Blk)
  | [.sl t1 [.int .i64, .int .i64, .int .i64, .int .i64] es, .sl t2 [.int .i64] cs], [] => spW (vev18t_2 t1 t2 es cs) (some ((true, AV.tup [AV.sl Tk.imm [Kd.int IntKind.i64, Kd.int IntKind.i64, Kd.int IntKind.i64, Kd.int IntKind.i64] (vev18t_0 t1 t2 es cs), AV.sl Tk.imm [Kd.int IntKind.i64] (vev18t_1 t1 t2 es cs)], [])))
  | _, _ => none
noncomputable def k18t : Gam := fun f T C => match Nat.beq f 18 with
  | true => (sp18t T C).or (k20 f T C)
  | false => k20 f T C
theorem k18t_ok : GamOK Try.prog k18t := by
  intro f T C r outs h
  unfold k18t at h
  cases hf : Nat.beq f 18 with
  | false => rw [hf] at h; exact k20_ok f T C r outs h
  | true =>
    have hf' := Nat.eq_of_beq_eq_true hf
    subst hf'
    rw [hf] at h
    dsimp only at h
    cases hs : sp18t T C with
    | none => rw [hs] at h; exact k20_ok _ T C r outs h
    | some x =>
      rw [hs] at h
      have hx : x = (true, r, outs) := by simpa using h
      subst hx
      unfold sp18t at hs
      split at hs
      · rename_i t1 es t2 cs
        obtain ⟨hb, rfl, rfl⟩ := spT_inv hs
        have he := ev18t t1 t2 es cs
        rw [hb, cond_true] at he
        obtain ⟨r0, o0, h0, he⟩ := evFin_inv he
        obtain ⟨h1, h2⟩ := fn_ok mixed plain (gk_ok k20_ok 30) Try.func18 loops18t h0
        exact ⟨h1, h2.fin he⟩
      · cases hs
end Go.Proofs.Gv
