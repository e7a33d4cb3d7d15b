import Derived.Test.YteomgnfnigflnaaGgTag
namespace Go.Proofs.Gv
open Go.Proofs
set_option linter.unusedVariables false
noncomputable def vev4_0 (es : List (List AV)) (cs : List (List AV)) (n0 : Int) (n1 : Int) (n2 : Int) : Bool := bif bif decide ((↑es.length : Int) > (12 : Int)) then true else decide ((↑cs.length : Int) > (60 : Int)) then bif bif bif bif bif bif true then vev15_0 (vev11_0 (2 : Int)) (vev13_0 (5000000 : Int) (vev11_0 (2 : Int)) (vev7_1 (0 : Int) (vev11_0 (2 : Int)) (0 : Int) (0 : Int) (0 : Int) (6 : Int)) (vev7_2 (0 : Int) (vev11_0 (2 : Int)) (0 : Int) (0 : Int) (0 : Int) (6 : Int)) (vev7_3 (0 : Int) (vev11_0 (2 : Int)) (0 : Int) (0 : Int) (0 : Int) (6 : Int))) (vev7_2 (0 : Int) (vev11_0 (2 : Int)) (0 : Int) (0 : Int) (0 : Int) (6 : Int)) (vev7_3 (0 : Int) (vev11_0 (2 : Int)) (0 : Int) (0 : Int) (0 : Int) (6 : Int)) == (0 : Int) else false then true else false then true else false then true else false then true else false then true else false else bif bif vev22_1 (vev18_0 (vev19_0 es) cs) then bif vev21_1 (vev22_0 (vev18_0 (vev19_0 es) cs)) (vev20_0 es cs) then bif !vev21_0 (vev22_0 (vev18_0 (vev19_0 es) cs)) (vev20_0 es cs) then true else bif vev23_1 (vev18_1 (vev19_0 es) cs) (vev20_1 es cs) then bif !vev23_0 (vev18_1 (vev19_0 es) cs) (vev20_1 es cs) then true else bif vev19_1 es then bif vev24_1 Tk.imm (vev19_0 es) then bif vev25_1 Tk.imm es then vev24_0 Tk.imm (vev19_0 es) != vev25_0 Tk.imm es else false else false else false else false else false else false then false else bif decide ((↑es.length : Int) < (2 : Int)) then bif bif bif bif bif bif true then vev15_0 (vev11_0 (2 : Int)) (vev13_0 (5000000 : Int) (vev11_0 (2 : Int)) (vev7_1 (0 : Int) (vev11_0 (2 : Int)) (0 : Int) (0 : Int) (0 : Int) (6 : Int)) (vev7_2 (0 : Int) (vev11_0 (2 : Int)) (0 : Int) (0 : Int) (0 : Int) (6 : Int)) (vev7_3 (0 : Int) (vev11_0 (2 : Int)) (0 : Int) (0 : Int) (0 : Int) (6 : Int))) (vev7_2 (0 : Int) (vev11_0 (2 : Int)) (0 : Int) (0 : Int) (0 : Int) (6 : Int)) (vev7_3 (0 : Int) (vev11_0 (2 : Int)) (0 : Int) (0 : Int) (0 : Int) (6 : Int)) == (0 : Int) else false then true else false then true else false then true else false then true else false then true else false else bif decide ((0 : Int) ≤ (0 : Int)) && decide ((0 : Int) < (↑es.length : Int)) then bif decide ((0 : Int) ≤ (1 : Int)) && decide ((1 : Int) < (↑es.length : Int)) then bif decide ((0 : Int) ≤ (0 : Int)) && decide ((0 : Int) < (↑es.length : Int)) then bif decide ((0 : Int) ≤ (1 : Int)) && decide ((1 : Int) < (↑es.length : Int)) then bif vev26_0 (intOf ((es.getD (Int.toNat (0 : Int)) []).getD (0 : Nat) AV.junk)) (intOf ((es.getD (Int.toNat (0 : Int)) []).getD ((0 : Nat) + (1 : Nat)) AV.junk)) (intOf ((es.getD (Int.toNat (0 : Int)) []).getD ((0 : Nat) + (1 : Nat) + (1 : Nat)) AV.junk)) (intOf ((es.getD (Int.toNat (0 : Int)) []).getD ((0 : Nat) + (1 : Nat) + (1 : Nat) + (1 : Nat)) AV.junk)) (intOf ((es.getD (Int.toNat (1 : Int)) []).getD (0 : Nat) AV.junk)) (intOf ((es.getD (Int.toNat (1 : Int)) []).getD ((0 : Nat) + (1 : Nat)) AV.junk)) (intOf ((es.getD (Int.toNat (1 : Int)) []).getD ((0 : Nat) + (1 : Nat) + (1 : Nat)) AV.junk)) (intOf ((es.getD (Int.toNat (1 : Int)) []).getD ((0 : Nat) + (1 : Nat) + (1 : Nat) + (1 : Nat)) AV.junk)) n0 n1 n2 == vev27_0 (intOf ((es.getD (Int.toNat (0 : Int)) []).getD (0 : Nat) AV.junk)) (intOf ((es.getD (Int.toNat (0 : Int)) []).getD ((0 : Nat) + (1 : Nat)) AV.junk)) (intOf ((es.getD (Int.toNat (0 : Int)) []).getD ((0 : Nat) + (1 : Nat) + (1 : Nat)) AV.junk)) (intOf ((es.getD (Int.toNat (0 : Int)) []).getD ((0 : Nat) + (1 : Nat) + (1 : Nat) + (1 : Nat)) AV.junk)) (intOf ((es.getD (Int.toNat (1 : Int)) []).getD (0 : Nat) AV.junk)) (intOf ((es.getD (Int.toNat (1 : Int)) []).getD ((0 : Nat) + (1 : Nat)) AV.junk)) (intOf ((es.getD (Int.toNat (1 : Int)) []).getD ((0 : Nat) + (1 : Nat) + (1 : Nat)) AV.junk)) (intOf ((es.getD (Int.toNat (1 : Int)) []).getD ((0 : Nat) + (1 : Nat) + (1 : Nat) + (1 : Nat)) AV.junk)) n0 n1 n2 then bif true then bif bif bif bif bif bif true then vev15_0 (vev11_0 (2 : Int)) (vev13_0 (5000000 : Int) (vev11_0 (2 : Int)) (vev7_1 (0 : Int) (vev11_0 (2 : Int)) (0 : Int) (0 : Int) (0 : Int) (6 : Int)) (vev7_2 (0 : Int) (vev11_0 (2 : Int)) (0 : Int) (0 : Int) (0 : Int) (6 : Int)) (vev7_3 (0 : Int) (vev11_0 (2 : Int)) (0 : Int) (0 : Int) (0 : Int) (6 : Int))) (vev7_2 (0 : Int) (vev11_0 (2 : Int)) (0 : Int) (0 : Int) (0 : Int) (6 : Int)) (vev7_3 (0 : Int) (vev11_0 (2 : Int)) (0 : Int) (0 : Int) (0 : Int) (6 : Int)) == (0 : Int) else false then true else false then true else false then true else false then true else false then true else false else false else false else false else false else false else false
noncomputable def vev4_1 (es : List (List AV)) (cs : List (List AV)) (n0 : Int) (n1 : Int) (n2 : Int) : Bool := bif bif decide ((↑es.length : Int) > (12 : Int)) then true else decide ((↑cs.length : Int) > (60 : Int)) then true else bif vev19_1 es then bif vev18_2 (vev19_0 es) cs then bif vev20_2 es cs then bif bif vev22_1 (vev18_0 (vev19_0 es) cs) then bif vev21_1 (vev22_0 (vev18_0 (vev19_0 es) cs)) (vev20_0 es cs) then bif !vev21_0 (vev22_0 (vev18_0 (vev19_0 es) cs)) (vev20_0 es cs) then true else bif vev23_1 (vev18_1 (vev19_0 es) cs) (vev20_1 es cs) then bif !vev23_0 (vev18_1 (vev19_0 es) cs) (vev20_1 es cs) then true else bif vev19_1 es then bif vev24_1 Tk.imm (vev19_0 es) then vev25_1 Tk.imm es else false else false else false else false else false then bif bif vev22_1 (vev18_0 (vev19_0 es) cs) then bif vev21_1 (vev22_0 (vev18_0 (vev19_0 es) cs)) (vev20_0 es cs) then bif !vev21_0 (vev22_0 (vev18_0 (vev19_0 es) cs)) (vev20_0 es cs) then true else bif vev23_1 (vev18_1 (vev19_0 es) cs) (vev20_1 es cs) then bif !vev23_0 (vev18_1 (vev19_0 es) cs) (vev20_1 es cs) then true else bif vev19_1 es then bif vev24_1 Tk.imm (vev19_0 es) then bif vev25_1 Tk.imm es then vev24_0 Tk.imm (vev19_0 es) != vev25_0 Tk.imm es else false else false else false else false else false else false then true else bif decide ((↑es.length : Int) < (2 : Int)) then true else bif bif decide ((0 : Int) ≤ (0 : Int)) && decide ((0 : Int) < (↑es.length : Int)) then bif decide ((0 : Int) ≤ (1 : Int)) && decide ((1 : Int) < (↑es.length : Int)) then bif decide ((0 : Int) ≤ (0 : Int)) && decide ((0 : Int) < (↑es.length : Int)) then decide ((0 : Int) ≤ (1 : Int)) && decide ((1 : Int) < (↑es.length : Int)) else false else false else false then true else false else false else false else false else false
theorem ev4 (es : List (List AV)) (cs : List (List AV)) (n0 : Int) (n1 : Int) (n2 : Int) : evFun (cfg Try.prog tab 100000 (gk k20 30) noLsp 4 ([] : List Blk).length Try.f4.ntmps) Try.f4 [.sl .imm [.int .i64, .int .i64, .int .i64, .int .i64] es, .sl .imm [.int .i64] cs, .agg [.int .i64 n0, .int .i64 n1, .int .i64 n2]] [] = bif vev4_1 es cs n0 n1 n2 then some (AV.bool (vev4_0 es cs n0 n1 n2), []) else none := by
  have h : evFun (cfg Try.prog tab 100000 (gk k20 30) noLsp 4 ([] : List Blk).length Try.f4.ntmps) Try.f4 [.sl .imm [.int .i64, .int .i64, .int .i64, .int .i64] es, .sl .imm [.int .i64] cs, .agg [.int .i64 n0, .int .i64 n1, .int .i64 n2]] [] = bif bif decide ((↑es.length : Int) > (12 : Int)) then true else true then bif bif decide ((↑es.length : Int) > (12 : Int)) then true else bif false then true else decide ((↑cs.length : Int) > (60 : Int)) then some (AV.bool (bif bif bif bif bif bif true then vev15_0 (vev11_0 (2 : Int)) (vev13_0 (5000000 : Int) (vev11_0 (2 : Int)) (vev7_1 (0 : Int) (vev11_0 (2 : Int)) (0 : Int) (0 : Int) (0 : Int) (6 : Int)) (vev7_2 (0 : Int) (vev11_0 (2 : Int)) (0 : Int) (0 : Int) (0 : Int) (6 : Int)) (vev7_3 (0 : Int) (vev11_0 (2 : Int)) (0 : Int) (0 : Int) (0 : Int) (6 : Int))) (vev7_2 (0 : Int) (vev11_0 (2 : Int)) (0 : Int) (0 : Int) (0 : Int) (6 : Int)) (vev7_3 (0 : Int) (vev11_0 (2 : Int)) (0 : Int) (0 : Int) (0 : Int) (6 : Int)) == (0 : Int) else false then true else false then true else false then true else false then true else false then true else false), []) else bif vev19_1 es then bif vev18_2 (vev19_0 es) cs then bif vev20_2 es cs then bif bif vev22_1 (vev18_0 (vev19_0 es) cs) then bif vev21_1 (vev22_0 (vev18_0 (vev19_0 es) cs)) (vev20_0 es cs) then bif !vev21_0 (vev22_0 (vev18_0 (vev19_0 es) cs)) (vev20_0 es cs) then true else bif vev23_1 (vev18_1 (vev19_0 es) cs) (vev20_1 es cs) then bif bif false then true else !vev23_0 (vev18_1 (vev19_0 es) cs) (vev20_1 es cs) then true else bif vev19_1 es then bif vev24_1 Tk.imm (vev19_0 es) then bif vev25_1 Tk.imm es then true else false else false else false else false else false else false then bif bif vev22_1 (vev18_0 (vev19_0 es) cs) then bif vev21_1 (vev22_0 (vev18_0 (vev19_0 es) cs)) (vev20_0 es cs) then bif !vev21_0 (vev22_0 (vev18_0 (vev19_0 es) cs)) (vev20_0 es cs) then true else bif vev23_1 (vev18_1 (vev19_0 es) cs) (vev20_1 es cs) then bif bif false then true else !vev23_0 (vev18_1 (vev19_0 es) cs) (vev20_1 es cs) then true else bif vev19_1 es then bif vev24_1 Tk.imm (vev19_0 es) then bif vev25_1 Tk.imm es then bif false then true else vev24_0 Tk.imm (vev19_0 es) != vev25_0 Tk.imm es else false else false else false else false else false else false then some (AV.bool false, []) else bif decide ((↑es.length : Int) < (2 : Int)) then some (AV.bool (bif bif bif bif bif bif true then vev15_0 (vev11_0 (2 : Int)) (vev13_0 (5000000 : Int) (vev11_0 (2 : Int)) (vev7_1 (0 : Int) (vev11_0 (2 : Int)) (0 : Int) (0 : Int) (0 : Int) (6 : Int)) (vev7_2 (0 : Int) (vev11_0 (2 : Int)) (0 : Int) (0 : Int) (0 : Int) (6 : Int)) (vev7_3 (0 : Int) (vev11_0 (2 : Int)) (0 : Int) (0 : Int) (0 : Int) (6 : Int))) (vev7_2 (0 : Int) (vev11_0 (2 : Int)) (0 : Int) (0 : Int) (0 : Int) (6 : Int)) (vev7_3 (0 : Int) (vev11_0 (2 : Int)) (0 : Int) (0 : Int) (0 : Int) (6 : Int)) == (0 : Int) else false then true else false then true else false then true else false then true else false then true else false), []) else bif bif decide ((0 : Int) ≤ (0 : Int)) && decide ((0 : Int) < (↑es.length : Int)) then bif decide ((0 : Int) ≤ (1 : Int)) && decide ((1 : Int) < (↑es.length : Int)) then bif decide ((0 : Int) ≤ (0 : Int)) && decide ((0 : Int) < (↑es.length : Int)) then bif decide ((0 : Int) ≤ (1 : Int)) && decide ((1 : Int) < (↑es.length : Int)) then bif vev26_0 (intOf ((es.getD (Int.toNat (0 : Int)) []).getD (0 : Nat) AV.junk)) (intOf ((es.getD (Int.toNat (0 : Int)) []).getD ((0 : Nat) + (1 : Nat)) AV.junk)) (intOf ((es.getD (Int.toNat (0 : Int)) []).getD ((0 : Nat) + (1 : Nat) + (1 : Nat)) AV.junk)) (intOf ((es.getD (Int.toNat (0 : Int)) []).getD ((0 : Nat) + (1 : Nat) + (1 : Nat) + (1 : Nat)) AV.junk)) (intOf ((es.getD (Int.toNat (1 : Int)) []).getD (0 : Nat) AV.junk)) (intOf ((es.getD (Int.toNat (1 : Int)) []).getD ((0 : Nat) + (1 : Nat)) AV.junk)) (intOf ((es.getD (Int.toNat (1 : Int)) []).getD ((0 : Nat) + (1 : Nat) + (1 : Nat)) AV.junk)) (intOf ((es.getD (Int.toNat (1 : Int)) []).getD ((0 : Nat) + (1 : Nat) + (1 : Nat) + (1 : Nat)) AV.junk)) n0 n1 n2 == vev27_0 (intOf ((es.getD (Int.toNat (0 : Int)) []).getD (0 : Nat) AV.junk)) (intOf ((es.getD (Int.toNat (0 : Int)) []).getD ((0 : Nat) + (1 : Nat)) AV.junk)) (intOf ((es.getD (Int.toNat (0 : Int)) []).getD ((0 : Nat) + (1 : Nat) + (1 : Nat)) AV.junk)) (intOf ((es.getD (Int.toNat (0 : Int)) []).getD ((0 : Nat) + (1 : Nat) + (1 : Nat) + (1 : Nat)) AV.junk)) (intOf ((es.getD (Int.toNat (1 : Int)) []).getD (0 : Nat) AV.junk)) (intOf ((es.getD (Int.toNat (1 : Int)) []).getD ((0 : Nat) + (1 : Nat)) AV.junk)) (intOf ((es.getD (Int.toNat (1 : Int)) []).getD ((0 : Nat) + (1 : Nat) + (1 : Nat)) AV.junk)) (intOf ((es.getD (Int.toNat (1 : Int)) []).getD ((0 : Nat) + (1 : Nat) + (1 : Nat) + (1 : Nat)) AV.junk)) n0 n1 n2 then true else true else false else false else false else false then some (AV.bool (bif decide ((0 : Int) ≤ (0 : Int)) && decide ((0 : Int) < (↑es.length : Int)) then bif decide ((0 : Int) ≤ (1 : Int)) && decide ((1 : Int) < (↑es.length : Int)) then bif decide ((0 : Int) ≤ (0 : Int)) && decide ((0 : Int) < (↑es.length : Int)) then bif decide ((0 : Int) ≤ (1 : Int)) && decide ((1 : Int) < (↑es.length : Int)) then bif vev26_0 (intOf ((es.getD (Int.toNat (0 : Int)) []).getD (0 : Nat) AV.junk)) (intOf ((es.getD (Int.toNat (0 : Int)) []).getD ((0 : Nat) + (1 : Nat)) AV.junk)) (intOf ((es.getD (Int.toNat (0 : Int)) []).getD ((0 : Nat) + (1 : Nat) + (1 : Nat)) AV.junk)) (intOf ((es.getD (Int.toNat (0 : Int)) []).getD ((0 : Nat) + (1 : Nat) + (1 : Nat) + (1 : Nat)) AV.junk)) (intOf ((es.getD (Int.toNat (1 : Int)) []).getD (0 : Nat) AV.junk)) (intOf ((es.getD (Int.toNat (1 : Int)) []).getD ((0 : Nat) + (1 : Nat)) AV.junk)) (intOf ((es.getD (Int.toNat (1 : Int)) []).getD ((0 : Nat) + (1 : Nat) + (1 : Nat)) AV.junk)) (intOf ((es.getD (Int.toNat (1 : Int)) []).getD ((0 : Nat) + (1 : Nat) + (1 : Nat) + (1 : Nat)) AV.junk)) n0 n1 n2 == vev27_0 (intOf ((es.getD (Int.toNat (0 : Int)) []).getD (0 : Nat) AV.junk)) (intOf ((es.getD (Int.toNat (0 : Int)) []).getD ((0 : Nat) + (1 : Nat)) AV.junk)) (intOf ((es.getD (Int.toNat (0 : Int)) []).getD ((0 : Nat) + (1 : Nat) + (1 : Nat)) AV.junk)) (intOf ((es.getD (Int.toNat (0 : Int)) []).getD ((0 : Nat) + (1 : Nat) + (1 : Nat) + (1 : Nat)) AV.junk)) (intOf ((es.getD (Int.toNat (1 : Int)) []).getD (0 : Nat) AV.junk)) (intOf ((es.getD (Int.toNat (1 : Int)) []).getD ((0 : Nat) + (1 : Nat)) AV.junk)) (intOf ((es.getD (Int.toNat (1 : Int)) []).getD ((0 : Nat) + (1 : Nat) + (1 : Nat)) AV.junk)) (intOf ((es.getD (Int.toNat (1 : Int)) []).getD ((0 : Nat) + (1 : Nat) + (1 : Nat) + (1 : Nat)) AV.junk)) n0 n1 n2 then bif true then bif bif bif bif bif bif true then vev15_0 (vev11_0 (2 : Int)) (vev13_0 (5000000 : Int) (vev11_0 (2 : Int)) (vev7_1 (0 : Int) (vev11_0 (2 : Int)) (0 : Int) (0 : Int) (0 : Int) (6 : Int)) (vev7_2 (0 : Int) (vev11_0 (2 : Int)) (0 : Int) (0 : Int) (0 : Int) (6 : Int)) (vev7_3 (0 : Int) (vev11_0 (2 : Int)) (0 : Int) (0 : Int) (0 : Int) (6 : Int))) (vev7_2 (0 : Int) (vev11_0 (2 : Int)) (0 : Int) (0 : Int) (0 : Int) (6 : Int)) (vev7_3 (0 : Int) (vev11_0 (2 : Int)) (0 : Int) (0 : Int) (0 : Int) (6 : Int)) == (0 : Int) else false then true else false then true else false then true else false then true else false then true else false else false else false else false else false else false else false), []) else none else none else none else none else none else none := by kernel_rfl
  rw [h]
  clear h
  unfold vev4_0 vev4_1
  generalize (vev26_0 (intOf ((es.getD (Int.toNat (0 : Int)) []).getD (0 : Nat) AV.junk)) (intOf ((es.getD (Int.toNat (0 : Int)) []).getD ((0 : Nat) + (1 : Nat)) AV.junk)) (intOf ((es.getD (Int.toNat (0 : Int)) []).getD ((0 : Nat) + (1 : Nat) + (1 : Nat)) AV.junk)) (intOf ((es.getD (Int.toNat (0 : Int)) []).getD ((0 : Nat) + (1 : Nat) + (1 : Nat) + (1 : Nat)) AV.junk)) (intOf ((es.getD (Int.toNat (1 : Int)) []).getD (0 : Nat) AV.junk)) (intOf ((es.getD (Int.toNat (1 : Int)) []).getD ((0 : Nat) + (1 : Nat)) AV.junk)) (intOf ((es.getD (Int.toNat (1 : Int)) []).getD ((0 : Nat) + (1 : Nat) + (1 : Nat)) AV.junk)) (intOf ((es.getD (Int.toNat (1 : Int)) []).getD ((0 : Nat) + (1 : Nat) + (1 : Nat) + (1 : Nat)) AV.junk)) n0 n1 n2 == vev27_0 (intOf ((es.getD (Int.toNat (0 : Int)) []).getD (0 : Nat) AV.junk)) (intOf ((es.getD (Int.toNat (0 : Int)) []).getD ((0 : Nat) + (1 : Nat)) AV.junk)) (intOf ((es.getD (Int.toNat (0 : Int)) []).getD ((0 : Nat) + (1 : Nat) + (1 : Nat)) AV.junk)) (intOf ((es.getD (Int.toNat (0 : Int)) []).getD ((0 : Nat) + (1 : Nat) + (1 : Nat) + (1 : Nat)) AV.junk)) (intOf ((es.getD (Int.toNat (1 : Int)) []).getD (0 : Nat) AV.junk)) (intOf ((es.getD (Int.toNat (1 : Int)) []).getD ((0 : Nat) + (1 : Nat)) AV.junk)) (intOf ((es.getD (Int.toNat (1 : Int)) []).getD ((0 : Nat) + (1 : Nat) + (1 : Nat)) AV.junk)) (intOf ((es.getD (Int.toNat (1 : Int)) []).getD ((0 : Nat) + (1 : Nat) + (1 : Nat) + (1 : Nat)) AV.junk)) n0 n1 n2) = c0
  generalize (decide ((0 : Int) ≤ (0 : Int)) && decide ((0 : Int) < (↑es.length : Int))) = c1
  generalize (decide ((0 : Int) ≤ (1 : Int)) && decide ((1 : Int) < (↑es.length : Int))) = c2
  generalize (decide ((↑es.length : Int) > (12 : Int))) = c3
  generalize (decide ((↑cs.length : Int) > (60 : Int))) = c4
  generalize (decide ((↑es.length : Int) < (2 : Int))) = c5
  generalize (vev24_0 Tk.imm (vev19_0 es) != vev25_0 Tk.imm es) = c6
  generalize (!vev21_0 (vev22_0 (vev18_0 (vev19_0 es) cs)) (vev20_0 es cs)) = c7
  generalize (!vev23_0 (vev18_1 (vev19_0 es) cs) (vev20_1 es cs)) = c8
  generalize (vev21_1 (vev22_0 (vev18_0 (vev19_0 es) cs)) (vev20_0 es cs)) = c9
  generalize (vev23_1 (vev18_1 (vev19_0 es) cs) (vev20_1 es cs)) = c10
  generalize (vev22_1 (vev18_0 (vev19_0 es) cs)) = c11
  generalize (vev18_2 (vev19_0 es) cs) = c12
  generalize (vev24_1 Tk.imm (vev19_0 es)) = c13
  generalize (vev20_2 es cs) = c14
  generalize (vev25_1 Tk.imm es) = c15
  generalize (vev19_1 es) = c16
  cases c3
  · skip
    cases c4
    · skip
      cases c16
      · skip
        rfl
      · skip
        cases c12
        · skip
          rfl
        · skip
          cases c14
          · skip
            rfl
          · skip
            cases c11
            · skip
              rfl
            · skip
              cases c9
              · skip
                rfl
              · skip
                cases c7
                · skip
                  cases c10
                  · skip
                    rfl
                  · skip
                    cases c8
                    · skip
                      cases c13
                      · skip
                        rfl
                      · skip
                        cases c15
                        · skip
                          rfl
                        · skip
                          cases c6
                          · skip
                            cases c5
                            · skip
                              cases c1
                              · skip
                                rfl
                              · skip
                                cases c2
                                · skip
                                  rfl
                                · skip
                                  cases c0
                                  · skip
                                    rfl
                                  · skip
                                    rfl
                            · skip
                              rfl
                          · skip
                            rfl
                    · skip
                      rfl
                · skip
                  rfl
    · skip
      rfl
  · skip
    rfl
-- spec vev4_1 es cs n0 n1 n2 ;; (AV.bool (vev4_0 es cs n0 n1 n2), [])
end Go.Proofs.Gv
