import Derived.Test.YtjbohlgfhfehdaaGt
import Derived.KernelRfl
import Derived.Test.YtjbohlgfhfehdaaGwF
import Derived.Test.YtjbohlgfhfehdaaGxJ
import Derived.Test.YtjbohlgfhfehdaaGaHp3
namespace Go.Proofs.Gv
open Go.Proofs
set_option linter.unusedVariables false
noncomputable def rev4_0 (es : List (List AV)) (a : Int) (b : Int) (id : Int) : List (List AV) := vev10_0 Tk.imm (vev17_0 Tk.imm (vev8_0 es) a b)
noncomputable def rev4_1 (es : List (List AV)) (a : Int) (b : Int) (id : Int) : List (List AV) := vev12_0 Tk.imm (rev4_0 es a b id)
noncomputable def rev4_2 (es : List (List AV)) (a : Int) (b : Int) (id : Int) : Int := (↑(vev12_0 Tk.imm es).length : Int)
noncomputable def rev4_3 (es : List (List AV)) (a : Int) (b : Int) (id : Int) : List (List AV) := vev12_0 Tk.imm (vev10_0 Tk.imm (vev18_0 Tk.imm (vev8_0 es)))
noncomputable def rev4_4 (es : List (List AV)) (a : Int) (b : Int) (id : Int) : List (List AV) := List.drop (Int.toNat (1 : Int)) (vev12_0 Tk.imm es)
noncomputable def rev4_5 (es : List (List AV)) (a : Int) (b : Int) (id : Int) : sl22_2 := vev22_0 Tk.imm (vev10_0 Tk.lent (vev7_0 Tk.imm (vev8_0 es))) id
noncomputable def rev4_6 (es : List (List AV)) (a : Int) (b : Int) (id : Int) : List (List AV) := vev10_0 Tk.imm (vev19_0 Tk.imm (vev8_0 es) id a)
noncomputable def rev4_7 (es : List (List AV)) (a : Int) (b : Int) (id : Int) : List (List AV) := vev12_0 Tk.imm (rev4_6 es a b id)
noncomputable def rev4_8 (es : List (List AV)) (a : Int) (b : Int) (id : Int) : List (List AV) := vev12_0 Tk.imm (vev10_0 Tk.imm (vev20_0 Tk.imm (vev8_0 es) id))
noncomputable def rev4_9 (es : List (List AV)) (a : Int) (b : Int) (id : Int) : List (List AV) := vev23_0 Tk.imm (vev10_0 Tk.lent (vev7_0 Tk.imm (vev8_0 es))) (rev4_5 es a b id)
noncomputable def rev4_10 (es : List (List AV)) (a : Int) (b : Int) (id : Int) : List (List AV) := vev12_0 Tk.imm (rev4_9 es a b id)
noncomputable def rev4_11 (es : List (List AV)) (a : Int) (b : Int) (id : Int) : List (List AV) := vev21_0 Tk.imm (rev4_9 es a b id) a id
noncomputable def rev4_12 (es : List (List AV)) (a : Int) (b : Int) (id : Int) : List (List AV) := vev12_0 Tk.imm (vev23_0 Tk.imm es (vev22_0 Tk.imm es id))
noncomputable def rev4_13 (es : List (List AV)) (a : Int) (b : Int) (id : Int) : List (List AV) := vev21_0 Tk.imm (vev23_0 Tk.imm es (vev22_0 Tk.imm es id)) a id
noncomputable def vev4_0 (es : List (List AV)) (a : Int) (b : Int) (id : Int) : Bool := bif decide ((↑es.length : Int) > (60 : Int)) then true else bif bif vev13_1 Tk.imm (vev17_0 Tk.imm (vev8_0 es) a b) then bif vev13_0 Tk.imm (vev17_0 Tk.imm (vev8_0 es) a b) != (0 : Int) then true else bif vev13_1 Tk.imm (vev18_0 Tk.imm (vev8_0 es)) then bif vev13_0 Tk.imm (vev18_0 Tk.imm (vev8_0 es)) != (0 : Int) then true else bif vev13_1 Tk.imm (vev19_0 Tk.imm (vev8_0 es) id a) then bif vev13_0 Tk.imm (vev19_0 Tk.imm (vev8_0 es) id a) != (0 : Int) then true else bif vev13_1 Tk.imm (vev20_0 Tk.imm (vev8_0 es) id) then bif vev13_0 Tk.imm (vev20_0 Tk.imm (vev8_0 es) id) != (0 : Int) then true else bif vev10_1 Tk.imm (vev8_0 es) then bif vev9_1 Tk.imm (vev10_0 Tk.imm (vev8_0 es)) Tk.imm es then !vev9_0 Tk.imm (vev10_0 Tk.imm (vev8_0 es)) Tk.imm es else false else false else false else false else false else false then false else bif bif vev10_1 Tk.imm (vev17_0 Tk.imm (vev8_0 es) a b) then bif vev12_1 Tk.imm (rev4_0 es a b id) then bif vev21_1 Tk.imm es a b then bif vev9_1 Tk.imm (rev4_1 es a b id) Tk.imm (vev21_0 Tk.imm es a b) then bif !vev9_0 Tk.imm (rev4_1 es a b id) Tk.imm (vev21_0 Tk.imm es a b) then true else bif !vev18_3 Tk.imm (vev8_0 es) == decide ((↑es.length : Int) > (0 : Int)) then true else bif vev18_3 Tk.imm (vev8_0 es) then bif decide ((0 : Int) ≤ (0 : Int)) && decide ((0 : Int) < rev4_2 es a b id) then bif !(vev18_1 Tk.imm (vev8_0 es) == intOf (((vev12_0 Tk.imm es).getD (Int.toNat (0 : Int)) []).getD (0 : Nat) AV.junk) && (vev18_2 Tk.imm (vev8_0 es) == intOf (((vev12_0 Tk.imm es).getD (Int.toNat (0 : Int)) []).getD ((0 : Nat) + (1 : Nat)) AV.junk) && true)) then true else bif vev10_1 Tk.imm (vev18_0 Tk.imm (vev8_0 es)) then bif vev12_1 Tk.imm (vev10_0 Tk.imm (vev18_0 Tk.imm (vev8_0 es))) then bif bnd (1 : Int) (rev4_2 es a b id) (rev4_2 es a b id) then bif vev9_1 Tk.imm (rev4_3 es a b id) Tk.imm (rev4_4 es a b id) then bif !vev9_0 Tk.imm (rev4_3 es a b id) Tk.imm (rev4_4 es a b id) then true else bif !vev18_3 Tk.imm (vev8_0 es) then (↑(vev18_0 Tk.imm (vev8_0 es)).length : Int) != (0 : Int) else false else false else false else false else false else false else bif !vev18_3 Tk.imm (vev8_0 es) then (↑(vev18_0 Tk.imm (vev8_0 es)).length : Int) != (0 : Int) else false else false else false else false else false then false else bif vev14_0 Tk.imm es != (0 : Int) then bif bif !vev19_1 Tk.imm (vev8_0 es) id a == decide (rev4_5 es a b id ≥ (0 : Int)) then true else !vev20_1 Tk.imm (vev8_0 es) id == decide (rev4_5 es a b id ≥ (0 : Int)) then false else bif decide (rev4_5 es a b id < (0 : Int)) then bif vev10_1 Tk.imm (vev19_0 Tk.imm (vev8_0 es) id a) then bif vev12_1 Tk.imm (rev4_6 es a b id) then bif vev9_1 Tk.imm (rev4_7 es a b id) Tk.imm (vev12_0 Tk.imm es) then bif vev9_0 Tk.imm (rev4_7 es a b id) Tk.imm (vev12_0 Tk.imm es) then bif vev10_1 Tk.imm (vev20_0 Tk.imm (vev8_0 es) id) then bif vev12_1 Tk.imm (vev10_0 Tk.imm (vev20_0 Tk.imm (vev8_0 es) id)) then bif vev9_1 Tk.imm (rev4_8 es a b id) Tk.imm (vev12_0 Tk.imm es) then bif bif true then vev9_0 Tk.imm (rev4_8 es a b id) Tk.imm (vev12_0 Tk.imm es) else false then bif true then true else false else false else false else false else false else false else false else false else false else bif vev9_0 Tk.imm (rev4_8 es a b id) Tk.imm (rev4_10 es a b id) then bif vev9_0 Tk.imm (rev4_7 es a b id) Tk.imm (rev4_11 es a b id) then bif true then true else false else false else false else bif bif !vev19_1 Tk.imm (vev8_0 es) id a == decide (vev22_0 Tk.imm es id ≥ (0 : Int)) then true else !vev20_1 Tk.imm (vev8_0 es) id == decide (vev22_0 Tk.imm es id ≥ (0 : Int)) then false else bif decide (vev22_0 Tk.imm es id < (0 : Int)) then bif vev10_1 Tk.imm (vev19_0 Tk.imm (vev8_0 es) id a) then bif vev12_1 Tk.imm (rev4_6 es a b id) then bif vev9_1 Tk.imm (rev4_7 es a b id) Tk.imm (vev12_0 Tk.imm es) then bif vev9_0 Tk.imm (rev4_7 es a b id) Tk.imm (vev12_0 Tk.imm es) then bif vev10_1 Tk.imm (vev20_0 Tk.imm (vev8_0 es) id) then bif vev12_1 Tk.imm (vev10_0 Tk.imm (vev20_0 Tk.imm (vev8_0 es) id)) then bif vev9_1 Tk.imm (rev4_8 es a b id) Tk.imm (vev12_0 Tk.imm es) then bif bif true then vev9_0 Tk.imm (rev4_8 es a b id) Tk.imm (vev12_0 Tk.imm es) else false then bif true then true else false else false else false else false else false else false else false else false else false else bif vev9_0 Tk.imm (rev4_8 es a b id) Tk.imm (rev4_12 es a b id) then bif vev9_0 Tk.imm (rev4_7 es a b id) Tk.imm (rev4_13 es a b id) then bif true then true else false else false else false
noncomputable def vev4_1 (es : List (List AV)) (a : Int) (b : Int) (id : Int) : Bool := bif decide ((↑es.length : Int) > (60 : Int)) then true else bif vev8_1 es then bif vev17_1 Tk.imm (vev8_0 es) a b then bif vev18_4 Tk.imm (vev8_0 es) then bif vev19_2 Tk.imm (vev8_0 es) id a then bif vev20_2 Tk.imm (vev8_0 es) id then bif bif vev13_1 Tk.imm (vev17_0 Tk.imm (vev8_0 es) a b) then bif vev13_0 Tk.imm (vev17_0 Tk.imm (vev8_0 es) a b) != (0 : Int) then true else bif vev13_1 Tk.imm (vev18_0 Tk.imm (vev8_0 es)) then bif vev13_0 Tk.imm (vev18_0 Tk.imm (vev8_0 es)) != (0 : Int) then true else bif vev13_1 Tk.imm (vev19_0 Tk.imm (vev8_0 es) id a) then bif vev13_0 Tk.imm (vev19_0 Tk.imm (vev8_0 es) id a) != (0 : Int) then true else bif vev13_1 Tk.imm (vev20_0 Tk.imm (vev8_0 es) id) then bif vev13_0 Tk.imm (vev20_0 Tk.imm (vev8_0 es) id) != (0 : Int) then true else bif vev10_1 Tk.imm (vev8_0 es) then vev9_1 Tk.imm (vev10_0 Tk.imm (vev8_0 es)) Tk.imm es else false else false else false else false else false then bif bif vev13_1 Tk.imm (vev17_0 Tk.imm (vev8_0 es) a b) then bif vev13_0 Tk.imm (vev17_0 Tk.imm (vev8_0 es) a b) != (0 : Int) then true else bif vev13_1 Tk.imm (vev18_0 Tk.imm (vev8_0 es)) then bif vev13_0 Tk.imm (vev18_0 Tk.imm (vev8_0 es)) != (0 : Int) then true else bif vev13_1 Tk.imm (vev19_0 Tk.imm (vev8_0 es) id a) then bif vev13_0 Tk.imm (vev19_0 Tk.imm (vev8_0 es) id a) != (0 : Int) then true else bif vev13_1 Tk.imm (vev20_0 Tk.imm (vev8_0 es) id) then bif vev13_0 Tk.imm (vev20_0 Tk.imm (vev8_0 es) id) != (0 : Int) then true else bif vev10_1 Tk.imm (vev8_0 es) then bif vev9_1 Tk.imm (vev10_0 Tk.imm (vev8_0 es)) Tk.imm es then !vev9_0 Tk.imm (vev10_0 Tk.imm (vev8_0 es)) Tk.imm es else false else false else false else false else false else false then true else bif vev12_1 Tk.imm es then bif bif vev10_1 Tk.imm (vev17_0 Tk.imm (vev8_0 es) a b) then bif vev12_1 Tk.imm (rev4_0 es a b id) then bif vev21_1 Tk.imm es a b then bif vev9_1 Tk.imm (rev4_1 es a b id) Tk.imm (vev21_0 Tk.imm es a b) then bif !vev9_0 Tk.imm (rev4_1 es a b id) Tk.imm (vev21_0 Tk.imm es a b) then true else bif !vev18_3 Tk.imm (vev8_0 es) == decide ((↑es.length : Int) > (0 : Int)) then true else bif vev18_3 Tk.imm (vev8_0 es) then bif decide ((0 : Int) ≤ (0 : Int)) && decide ((0 : Int) < rev4_2 es a b id) then bif !(vev18_1 Tk.imm (vev8_0 es) == intOf (((vev12_0 Tk.imm es).getD (Int.toNat (0 : Int)) []).getD (0 : Nat) AV.junk) && (vev18_2 Tk.imm (vev8_0 es) == intOf (((vev12_0 Tk.imm es).getD (Int.toNat (0 : Int)) []).getD ((0 : Nat) + (1 : Nat)) AV.junk) && true)) then true else bif vev10_1 Tk.imm (vev18_0 Tk.imm (vev8_0 es)) then bif vev12_1 Tk.imm (vev10_0 Tk.imm (vev18_0 Tk.imm (vev8_0 es))) then bif bnd (1 : Int) (rev4_2 es a b id) (rev4_2 es a b id) then vev9_1 Tk.imm (rev4_3 es a b id) Tk.imm (rev4_4 es a b id) else false else false else false else false else true else false else false else false else false then bif bif vev10_1 Tk.imm (vev17_0 Tk.imm (vev8_0 es) a b) then bif vev12_1 Tk.imm (rev4_0 es a b id) then bif vev21_1 Tk.imm es a b then bif vev9_1 Tk.imm (rev4_1 es a b id) Tk.imm (vev21_0 Tk.imm es a b) then bif !vev9_0 Tk.imm (rev4_1 es a b id) Tk.imm (vev21_0 Tk.imm es a b) then true else bif !vev18_3 Tk.imm (vev8_0 es) == decide ((↑es.length : Int) > (0 : Int)) then true else bif vev18_3 Tk.imm (vev8_0 es) then bif decide ((0 : Int) ≤ (0 : Int)) && decide ((0 : Int) < rev4_2 es a b id) then bif !(vev18_1 Tk.imm (vev8_0 es) == intOf (((vev12_0 Tk.imm es).getD (Int.toNat (0 : Int)) []).getD (0 : Nat) AV.junk) && (vev18_2 Tk.imm (vev8_0 es) == intOf (((vev12_0 Tk.imm es).getD (Int.toNat (0 : Int)) []).getD ((0 : Nat) + (1 : Nat)) AV.junk) && true)) then true else bif vev10_1 Tk.imm (vev18_0 Tk.imm (vev8_0 es)) then bif vev12_1 Tk.imm (vev10_0 Tk.imm (vev18_0 Tk.imm (vev8_0 es))) then bif bnd (1 : Int) (rev4_2 es a b id) (rev4_2 es a b id) then bif vev9_1 Tk.imm (rev4_3 es a b id) Tk.imm (rev4_4 es a b id) then bif !vev9_0 Tk.imm (rev4_3 es a b id) Tk.imm (rev4_4 es a b id) then true else bif !vev18_3 Tk.imm (vev8_0 es) then (↑(vev18_0 Tk.imm (vev8_0 es)).length : Int) != (0 : Int) else false else false else false else false else false else false else bif !vev18_3 Tk.imm (vev8_0 es) then (↑(vev18_0 Tk.imm (vev8_0 es)).length : Int) != (0 : Int) else false else false else false else false else false then true else bif vev14_1 Tk.imm es then bif vev14_0 Tk.imm es != (0 : Int) then bif vev7_1 Tk.imm (vev8_0 es) then bif vev10_1 Tk.lent (vev7_0 Tk.imm (vev8_0 es)) then bif vev22_1 Tk.imm (vev10_0 Tk.lent (vev7_0 Tk.imm (vev8_0 es))) id then bif bif !vev19_1 Tk.imm (vev8_0 es) id a == decide (rev4_5 es a b id ≥ (0 : Int)) then true else !vev20_1 Tk.imm (vev8_0 es) id == decide (rev4_5 es a b id ≥ (0 : Int)) then true else bif decide (rev4_5 es a b id < (0 : Int)) then bif bif vev10_1 Tk.imm (vev19_0 Tk.imm (vev8_0 es) id a) then bif vev12_1 Tk.imm (rev4_6 es a b id) then bif vev9_1 Tk.imm (rev4_7 es a b id) Tk.imm (vev12_0 Tk.imm es) then bif vev9_0 Tk.imm (rev4_7 es a b id) Tk.imm (vev12_0 Tk.imm es) then bif vev10_1 Tk.imm (vev20_0 Tk.imm (vev8_0 es) id) then bif vev12_1 Tk.imm (vev10_0 Tk.imm (vev20_0 Tk.imm (vev8_0 es) id)) then vev9_1 Tk.imm (rev4_8 es a b id) Tk.imm (vev12_0 Tk.imm es) else false else false else true else false else false else false then true else false else bif vev23_1 Tk.imm (vev10_0 Tk.lent (vev7_0 Tk.imm (vev8_0 es))) (rev4_5 es a b id) then bif vev10_1 Tk.imm (vev20_0 Tk.imm (vev8_0 es) id) then bif vev12_1 Tk.imm (vev10_0 Tk.imm (vev20_0 Tk.imm (vev8_0 es) id)) then bif vev12_1 Tk.imm (rev4_9 es a b id) then bif vev9_1 Tk.imm (rev4_8 es a b id) Tk.imm (rev4_10 es a b id) then bif vev9_0 Tk.imm (rev4_8 es a b id) Tk.imm (rev4_10 es a b id) then bif vev10_1 Tk.imm (vev19_0 Tk.imm (vev8_0 es) id a) then bif vev12_1 Tk.imm (rev4_6 es a b id) then bif vev21_1 Tk.imm (rev4_9 es a b id) a id then bif vev9_1 Tk.imm (rev4_7 es a b id) Tk.imm (rev4_11 es a b id) then true else false else false else false else false else true else false else false else false else false else false else false else false else false else bif vev22_1 Tk.imm es id then bif bif !vev19_1 Tk.imm (vev8_0 es) id a == decide (vev22_0 Tk.imm es id ≥ (0 : Int)) then true else !vev20_1 Tk.imm (vev8_0 es) id == decide (vev22_0 Tk.imm es id ≥ (0 : Int)) then true else bif decide (vev22_0 Tk.imm es id < (0 : Int)) then bif bif vev10_1 Tk.imm (vev19_0 Tk.imm (vev8_0 es) id a) then bif vev12_1 Tk.imm (rev4_6 es a b id) then bif vev9_1 Tk.imm (rev4_7 es a b id) Tk.imm (vev12_0 Tk.imm es) then bif vev9_0 Tk.imm (rev4_7 es a b id) Tk.imm (vev12_0 Tk.imm es) then bif vev10_1 Tk.imm (vev20_0 Tk.imm (vev8_0 es) id) then bif vev12_1 Tk.imm (vev10_0 Tk.imm (vev20_0 Tk.imm (vev8_0 es) id)) then vev9_1 Tk.imm (rev4_8 es a b id) Tk.imm (vev12_0 Tk.imm es) else false else false else true else false else false else false then true else false else bif vev23_1 Tk.imm es (vev22_0 Tk.imm es id) then bif vev10_1 Tk.imm (vev20_0 Tk.imm (vev8_0 es) id) then bif vev12_1 Tk.imm (vev10_0 Tk.imm (vev20_0 Tk.imm (vev8_0 es) id)) then bif vev12_1 Tk.imm (vev23_0 Tk.imm es (vev22_0 Tk.imm es id)) then bif vev9_1 Tk.imm (rev4_8 es a b id) Tk.imm (rev4_12 es a b id) then bif vev9_0 Tk.imm (rev4_8 es a b id) Tk.imm (rev4_12 es a b id) then bif vev10_1 Tk.imm (vev19_0 Tk.imm (vev8_0 es) id a) then bif vev12_1 Tk.imm (rev4_6 es a b id) then bif vev21_1 Tk.imm (vev23_0 Tk.imm es (vev22_0 Tk.imm es id)) a id then bif vev9_1 Tk.imm (rev4_7 es a b id) Tk.imm (rev4_13 es a b id) then true else false else false else false else false else true else false else false else false else false else false else false else false else false else false else false else false else false else false else false else false
theorem ev4 (es : List (List AV)) (a : Int) (b : Int) (id : Int) : evFun (cfg Try.prog tab 100000 (gk k9 30) noLsp 4 ([] : List Blk).length Try.f4.ntmps) Try.f4 [.sl .imm [.int .i64, .int .i64] es, .agg [.int .i64 a, .int .i64 b], .int .i64 id] [] = bif vev4_1 es a b id then some (AV.bool (vev4_0 es a b id), []) else none := by
  have h : evFun (cfg Try.prog tab 100000 (gk k9 30) noLsp 4 ([] : List Blk).length Try.f4.ntmps) Try.f4 [.sl .imm [.int .i64, .int .i64] es, .agg [.int .i64 a, .int .i64 b], .int .i64 id] [] = bif decide ((↑es.length : Int) > (60 : Int)) then some (AV.bool true, []) else bif vev8_1 es then bif vev17_1 Tk.imm (vev8_0 es) a b then bif vev18_4 Tk.imm (vev8_0 es) then bif vev19_2 Tk.imm (vev8_0 es) id a then bif vev20_2 Tk.imm (vev8_0 es) id then bif bif vev13_1 Tk.imm (vev17_0 Tk.imm (vev8_0 es) a b) then bif vev13_0 Tk.imm (vev17_0 Tk.imm (vev8_0 es) a b) != (0 : Int) then true else bif vev13_1 Tk.imm (vev18_0 Tk.imm (vev8_0 es)) then bif bif false then true else vev13_0 Tk.imm (vev18_0 Tk.imm (vev8_0 es)) != (0 : Int) then true else bif vev13_1 Tk.imm (vev19_0 Tk.imm (vev8_0 es) id a) then bif bif false then true else vev13_0 Tk.imm (vev19_0 Tk.imm (vev8_0 es) id a) != (0 : Int) then true else bif vev13_1 Tk.imm (vev20_0 Tk.imm (vev8_0 es) id) then bif bif false then true else vev13_0 Tk.imm (vev20_0 Tk.imm (vev8_0 es) id) != (0 : Int) then true else bif vev10_1 Tk.imm (vev8_0 es) then bif vev9_1 Tk.imm (vev10_0 Tk.imm (vev8_0 es)) Tk.imm es then true else false else false else false else false else false else false then bif bif vev13_1 Tk.imm (vev17_0 Tk.imm (vev8_0 es) a b) then bif vev13_0 Tk.imm (vev17_0 Tk.imm (vev8_0 es) a b) != (0 : Int) then true else bif vev13_1 Tk.imm (vev18_0 Tk.imm (vev8_0 es)) then bif bif false then true else vev13_0 Tk.imm (vev18_0 Tk.imm (vev8_0 es)) != (0 : Int) then true else bif vev13_1 Tk.imm (vev19_0 Tk.imm (vev8_0 es) id a) then bif bif false then true else vev13_0 Tk.imm (vev19_0 Tk.imm (vev8_0 es) id a) != (0 : Int) then true else bif vev13_1 Tk.imm (vev20_0 Tk.imm (vev8_0 es) id) then bif bif false then true else vev13_0 Tk.imm (vev20_0 Tk.imm (vev8_0 es) id) != (0 : Int) then true else bif vev10_1 Tk.imm (vev8_0 es) then bif vev9_1 Tk.imm (vev10_0 Tk.imm (vev8_0 es)) Tk.imm es then bif false then true else !vev9_0 Tk.imm (vev10_0 Tk.imm (vev8_0 es)) Tk.imm es else false else false else false else false else false else false then some (AV.bool false, []) else bif vev12_1 Tk.imm es then bif bif vev10_1 Tk.imm (vev17_0 Tk.imm (vev8_0 es) a b) then bif vev12_1 Tk.imm (rev4_0 es a b id) then bif vev21_1 Tk.imm es a b then bif vev9_1 Tk.imm (rev4_1 es a b id) Tk.imm (vev21_0 Tk.imm es a b) then bif !vev9_0 Tk.imm (rev4_1 es a b id) Tk.imm (vev21_0 Tk.imm es a b) then true else bif bif false then true else !vev18_3 Tk.imm (vev8_0 es) == decide ((↑es.length : Int) > (0 : Int)) then true else bif vev18_3 Tk.imm (vev8_0 es) then bif decide ((0 : Int) ≤ (0 : Int)) && decide ((0 : Int) < rev4_2 es a b id) then bif !(vev18_1 Tk.imm (vev8_0 es) == intOf (((vev12_0 Tk.imm es).getD (Int.toNat (0 : Int)) []).getD (0 : Nat) AV.junk) && (vev18_2 Tk.imm (vev8_0 es) == intOf (((vev12_0 Tk.imm es).getD (Int.toNat (0 : Int)) []).getD ((0 : Nat) + (1 : Nat)) AV.junk) && true)) then true else bif vev10_1 Tk.imm (vev18_0 Tk.imm (vev8_0 es)) then bif vev12_1 Tk.imm (vev10_0 Tk.imm (vev18_0 Tk.imm (vev8_0 es))) then bif bnd (1 : Int) (rev4_2 es a b id) (rev4_2 es a b id) then bif vev9_1 Tk.imm (rev4_3 es a b id) Tk.imm (rev4_4 es a b id) then bif bif false then true else bif true then bif false then true else !vev9_0 Tk.imm (rev4_3 es a b id) Tk.imm (rev4_4 es a b id) else false then true else bif !vev18_3 Tk.imm (vev8_0 es) then true else true else false else false else false else false else false else bif !vev18_3 Tk.imm (vev8_0 es) then true else true else false else false else false else false then bif bif vev10_1 Tk.imm (vev17_0 Tk.imm (vev8_0 es) a b) then bif vev12_1 Tk.imm (rev4_0 es a b id) then bif vev21_1 Tk.imm es a b then bif vev9_1 Tk.imm (rev4_1 es a b id) Tk.imm (vev21_0 Tk.imm es a b) then bif !vev9_0 Tk.imm (rev4_1 es a b id) Tk.imm (vev21_0 Tk.imm es a b) then true else bif bif false then true else !vev18_3 Tk.imm (vev8_0 es) == decide ((↑es.length : Int) > (0 : Int)) then true else bif vev18_3 Tk.imm (vev8_0 es) then bif decide ((0 : Int) ≤ (0 : Int)) && decide ((0 : Int) < rev4_2 es a b id) then bif !(vev18_1 Tk.imm (vev8_0 es) == intOf (((vev12_0 Tk.imm es).getD (Int.toNat (0 : Int)) []).getD (0 : Nat) AV.junk) && (vev18_2 Tk.imm (vev8_0 es) == intOf (((vev12_0 Tk.imm es).getD (Int.toNat (0 : Int)) []).getD ((0 : Nat) + (1 : Nat)) AV.junk) && true)) then true else bif vev10_1 Tk.imm (vev18_0 Tk.imm (vev8_0 es)) then bif vev12_1 Tk.imm (vev10_0 Tk.imm (vev18_0 Tk.imm (vev8_0 es))) then bif bnd (1 : Int) (rev4_2 es a b id) (rev4_2 es a b id) then bif vev9_1 Tk.imm (rev4_3 es a b id) Tk.imm (rev4_4 es a b id) then bif bif false then true else bif true then bif false then true else !vev9_0 Tk.imm (rev4_3 es a b id) Tk.imm (rev4_4 es a b id) else false then true else bif !vev18_3 Tk.imm (vev8_0 es) then bif false then true else bif true then (↑(vev18_0 Tk.imm (vev8_0 es)).length : Int) != (0 : Int) else false else bif false then true else false else false else false else false else false else false else bif !vev18_3 Tk.imm (vev8_0 es) then bif false then true else bif true then (↑(vev18_0 Tk.imm (vev8_0 es)).length : Int) != (0 : Int) else false else bif false then true else false else false else false else false else false then some (AV.bool false, []) else bif vev14_1 Tk.imm es then bif vev14_0 Tk.imm es != (0 : Int) then bif vev8_1 es then bif vev7_1 Tk.imm (vev8_0 es) then bif vev10_1 Tk.lent (vev7_0 Tk.imm (vev8_0 es)) then bif vev22_1 Tk.imm (vev10_0 Tk.lent (vev7_0 Tk.imm (vev8_0 es))) id then bif bif !vev19_1 Tk.imm (vev8_0 es) id a == decide (rev4_5 es a b id ≥ (0 : Int)) then true else true then bif bif !vev19_1 Tk.imm (vev8_0 es) id a == decide (rev4_5 es a b id ≥ (0 : Int)) then true else bif false then true else !vev20_1 Tk.imm (vev8_0 es) id == decide (rev4_5 es a b id ≥ (0 : Int)) then some (AV.bool false, []) else bif decide (rev4_5 es a b id < (0 : Int)) then bif bif vev10_1 Tk.imm (vev19_0 Tk.imm (vev8_0 es) id a) then bif vev12_1 Tk.imm (rev4_6 es a b id) then bif vev9_1 Tk.imm (rev4_7 es a b id) Tk.imm (vev12_0 Tk.imm es) then bif vev9_0 Tk.imm (rev4_7 es a b id) Tk.imm (vev12_0 Tk.imm es) then bif vev10_1 Tk.imm (vev20_0 Tk.imm (vev8_0 es) id) then bif vev12_1 Tk.imm (vev10_0 Tk.imm (vev20_0 Tk.imm (vev8_0 es) id)) then bif vev9_1 Tk.imm (rev4_8 es a b id) Tk.imm (vev12_0 Tk.imm es) then bif bif true then vev9_0 Tk.imm (rev4_8 es a b id) Tk.imm (vev12_0 Tk.imm es) else false then true else true else false else false else false else true else false else false else false then some (AV.bool (bif vev10_1 Tk.imm (vev19_0 Tk.imm (vev8_0 es) id a) then bif vev12_1 Tk.imm (rev4_6 es a b id) then bif vev9_1 Tk.imm (rev4_7 es a b id) Tk.imm (vev12_0 Tk.imm es) then bif vev9_0 Tk.imm (rev4_7 es a b id) Tk.imm (vev12_0 Tk.imm es) then bif vev10_1 Tk.imm (vev20_0 Tk.imm (vev8_0 es) id) then bif vev12_1 Tk.imm (vev10_0 Tk.imm (vev20_0 Tk.imm (vev8_0 es) id)) then bif vev9_1 Tk.imm (rev4_8 es a b id) Tk.imm (vev12_0 Tk.imm es) then bif bif true then vev9_0 Tk.imm (rev4_8 es a b id) Tk.imm (vev12_0 Tk.imm es) else false then bif true then true else false else false else false else false else false else false else false else false else false), []) else none else bif vev23_1 Tk.imm (vev10_0 Tk.lent (vev7_0 Tk.imm (vev8_0 es))) (rev4_5 es a b id) then bif vev10_1 Tk.imm (vev20_0 Tk.imm (vev8_0 es) id) then bif vev12_1 Tk.imm (vev10_0 Tk.imm (vev20_0 Tk.imm (vev8_0 es) id)) then bif vev12_1 Tk.imm (rev4_9 es a b id) then bif vev9_1 Tk.imm (rev4_8 es a b id) Tk.imm (rev4_10 es a b id) then bif vev9_0 Tk.imm (rev4_8 es a b id) Tk.imm (rev4_10 es a b id) then bif vev10_1 Tk.imm (vev19_0 Tk.imm (vev8_0 es) id a) then bif vev12_1 Tk.imm (rev4_6 es a b id) then bif vev21_1 Tk.imm (rev4_9 es a b id) a id then bif vev9_1 Tk.imm (rev4_7 es a b id) Tk.imm (rev4_11 es a b id) then bif bif true then vev9_0 Tk.imm (rev4_7 es a b id) Tk.imm (rev4_11 es a b id) else false then some (AV.bool (bif true then true else false), []) else some (AV.bool false, []) else none else none else none else none else some (AV.bool false, []) else none else none else none else none else none else none else none else none else none else none else bif vev22_1 Tk.imm es id then bif bif !vev19_1 Tk.imm (vev8_0 es) id a == decide (vev22_0 Tk.imm es id ≥ (0 : Int)) then true else true then bif bif !vev19_1 Tk.imm (vev8_0 es) id a == decide (vev22_0 Tk.imm es id ≥ (0 : Int)) then true else bif false then true else !vev20_1 Tk.imm (vev8_0 es) id == decide (vev22_0 Tk.imm es id ≥ (0 : Int)) then some (AV.bool false, []) else bif decide (vev22_0 Tk.imm es id < (0 : Int)) then bif bif vev10_1 Tk.imm (vev19_0 Tk.imm (vev8_0 es) id a) then bif vev12_1 Tk.imm (rev4_6 es a b id) then bif vev9_1 Tk.imm (rev4_7 es a b id) Tk.imm (vev12_0 Tk.imm es) then bif vev9_0 Tk.imm (rev4_7 es a b id) Tk.imm (vev12_0 Tk.imm es) then bif vev10_1 Tk.imm (vev20_0 Tk.imm (vev8_0 es) id) then bif vev12_1 Tk.imm (vev10_0 Tk.imm (vev20_0 Tk.imm (vev8_0 es) id)) then bif vev9_1 Tk.imm (rev4_8 es a b id) Tk.imm (vev12_0 Tk.imm es) then bif bif true then vev9_0 Tk.imm (rev4_8 es a b id) Tk.imm (vev12_0 Tk.imm es) else false then true else true else false else false else false else true else false else false else false then some (AV.bool (bif vev10_1 Tk.imm (vev19_0 Tk.imm (vev8_0 es) id a) then bif vev12_1 Tk.imm (rev4_6 es a b id) then bif vev9_1 Tk.imm (rev4_7 es a b id) Tk.imm (vev12_0 Tk.imm es) then bif vev9_0 Tk.imm (rev4_7 es a b id) Tk.imm (vev12_0 Tk.imm es) then bif vev10_1 Tk.imm (vev20_0 Tk.imm (vev8_0 es) id) then bif vev12_1 Tk.imm (vev10_0 Tk.imm (vev20_0 Tk.imm (vev8_0 es) id)) then bif vev9_1 Tk.imm (rev4_8 es a b id) Tk.imm (vev12_0 Tk.imm es) then bif bif true then vev9_0 Tk.imm (rev4_8 es a b id) Tk.imm (vev12_0 Tk.imm es) else false then bif true then true else false else false else false else false else false else false else false else false else false), []) else none else bif vev23_1 Tk.imm es (vev22_0 Tk.imm es id) then bif vev10_1 Tk.imm (vev20_0 Tk.imm (vev8_0 es) id) then bif vev12_1 Tk.imm (vev10_0 Tk.imm (vev20_0 Tk.imm (vev8_0 es) id)) then bif vev12_1 Tk.imm (vev23_0 Tk.imm es (vev22_0 Tk.imm es id)) then bif vev9_1 Tk.imm (rev4_8 es a b id) Tk.imm (rev4_12 es a b id) then bif vev9_0 Tk.imm (rev4_8 es a b id) Tk.imm (rev4_12 es a b id) then bif vev10_1 Tk.imm (vev19_0 Tk.imm (vev8_0 es) id a) then bif vev12_1 Tk.imm (rev4_6 es a b id) then bif vev21_1 Tk.imm (vev23_0 Tk.imm es (vev22_0 Tk.imm es id)) a id then bif vev9_1 Tk.imm (rev4_7 es a b id) Tk.imm (rev4_13 es a b id) then bif bif true then vev9_0 Tk.imm (rev4_7 es a b id) Tk.imm (rev4_13 es a b id) else false then some (AV.bool (bif true then true else false), []) else some (AV.bool false, []) else none else none else none else none else some (AV.bool false, []) else none else none else none else none else none else none else none else none else none else none else none else none else none else none else none else none := by kernel_rfl
  rw [h]
  clear h
  unfold vev4_0 vev4_1
  generalize (!(vev18_1 Tk.imm (vev8_0 es) == intOf (((vev12_0 Tk.imm es).getD (Int.toNat (0 : Int)) []).getD (0 : Nat) AV.junk) && (vev18_2 Tk.imm (vev8_0 es) == intOf (((vev12_0 Tk.imm es).getD (Int.toNat (0 : Int)) []).getD ((0 : Nat) + (1 : Nat)) AV.junk) && true))) = c0
  generalize (decide ((0 : Int) ≤ (0 : Int)) && decide ((0 : Int) < rev4_2 es a b id)) = c1
  generalize (!vev18_3 Tk.imm (vev8_0 es) == decide ((↑es.length : Int) > (0 : Int))) = c2
  generalize (!vev19_1 Tk.imm (vev8_0 es) id a == decide (rev4_5 es a b id ≥ (0 : Int))) = c3
  generalize (!vev20_1 Tk.imm (vev8_0 es) id == decide (rev4_5 es a b id ≥ (0 : Int))) = c4
  generalize (!vev19_1 Tk.imm (vev8_0 es) id a == decide (vev22_0 Tk.imm es id ≥ (0 : Int))) = c5
  generalize (!vev20_1 Tk.imm (vev8_0 es) id == decide (vev22_0 Tk.imm es id ≥ (0 : Int))) = c6
  generalize (decide ((↑es.length : Int) > (60 : Int))) = c7
  generalize (decide (rev4_5 es a b id < (0 : Int))) = c8
  generalize (decide (vev22_0 Tk.imm es id < (0 : Int))) = c9
  generalize ((↑(vev18_0 Tk.imm (vev8_0 es)).length : Int) != (0 : Int)) = c10
  generalize (vev13_0 Tk.imm (vev17_0 Tk.imm (vev8_0 es) a b) != (0 : Int)) = c11
  generalize (vev13_0 Tk.imm (vev19_0 Tk.imm (vev8_0 es) id a) != (0 : Int)) = c12
  generalize (vev13_0 Tk.imm (vev20_0 Tk.imm (vev8_0 es) id) != (0 : Int)) = c13
  generalize (bnd (1 : Int) (rev4_2 es a b id) (rev4_2 es a b id)) = c14
  generalize (vev13_0 Tk.imm (vev18_0 Tk.imm (vev8_0 es)) != (0 : Int)) = c15
  generalize (!vev9_0 Tk.imm (rev4_1 es a b id) Tk.imm (vev21_0 Tk.imm es a b)) = c16
  generalize (!vev9_0 Tk.imm (rev4_3 es a b id) Tk.imm (rev4_4 es a b id)) = c17
  generalize (vev23_1 Tk.imm (vev10_0 Tk.lent (vev7_0 Tk.imm (vev8_0 es))) (rev4_5 es a b id)) = c18
  generalize (vev9_0 Tk.imm (rev4_7 es a b id) Tk.imm (rev4_13 es a b id)) = c19
  generalize (vev14_0 Tk.imm es != (0 : Int)) = c20
  generalize (vev9_1 Tk.imm (rev4_3 es a b id) Tk.imm (rev4_4 es a b id)) = c21
  generalize (vev9_1 Tk.imm (rev4_8 es a b id) Tk.imm (rev4_10 es a b id)) = c22
  generalize (vev9_0 Tk.imm (rev4_8 es a b id) Tk.imm (rev4_10 es a b id)) = c23
  generalize (vev9_1 Tk.imm (rev4_7 es a b id) Tk.imm (rev4_11 es a b id)) = c24
  generalize (vev9_0 Tk.imm (rev4_7 es a b id) Tk.imm (rev4_11 es a b id)) = c25
  generalize (vev9_1 Tk.imm (rev4_8 es a b id) Tk.imm (rev4_12 es a b id)) = c26
  generalize (vev9_1 Tk.imm (rev4_1 es a b id) Tk.imm (vev21_0 Tk.imm es a b)) = c27
  generalize (vev9_0 Tk.imm (rev4_8 es a b id) Tk.imm (rev4_12 es a b id)) = c28
  generalize (vev9_1 Tk.imm (rev4_7 es a b id) Tk.imm (rev4_13 es a b id)) = c29
  generalize (vev9_1 Tk.imm (rev4_8 es a b id) Tk.imm (vev12_0 Tk.imm es)) = c30
  generalize (vev21_1 Tk.imm (vev23_0 Tk.imm es (vev22_0 Tk.imm es id)) a id) = c31
  generalize (vev9_0 Tk.imm (rev4_7 es a b id) Tk.imm (vev12_0 Tk.imm es)) = c32
  generalize (vev9_0 Tk.imm (rev4_8 es a b id) Tk.imm (vev12_0 Tk.imm es)) = c33
  generalize (vev9_1 Tk.imm (rev4_7 es a b id) Tk.imm (vev12_0 Tk.imm es)) = c34
  generalize (vev21_1 Tk.imm (rev4_9 es a b id) a id) = c35
  generalize (vev12_1 Tk.imm (vev23_0 Tk.imm es (vev22_0 Tk.imm es id))) = c36
  generalize (!vev9_0 Tk.imm (vev10_0 Tk.imm (vev8_0 es)) Tk.imm es) = c37
  generalize (vev22_1 Tk.imm (vev10_0 Tk.lent (vev7_0 Tk.imm (vev8_0 es))) id) = c38
  generalize (vev12_1 Tk.imm (vev10_0 Tk.imm (vev20_0 Tk.imm (vev8_0 es) id))) = c39
  generalize (vev13_1 Tk.imm (vev19_0 Tk.imm (vev8_0 es) id a)) = c40
  generalize (vev12_1 Tk.imm (vev10_0 Tk.imm (vev18_0 Tk.imm (vev8_0 es)))) = c41
  generalize (vev13_1 Tk.imm (vev17_0 Tk.imm (vev8_0 es) a b)) = c42
  generalize (vev9_1 Tk.imm (vev10_0 Tk.imm (vev8_0 es)) Tk.imm es) = c43
  generalize (vev10_1 Tk.imm (vev19_0 Tk.imm (vev8_0 es) id a)) = c44
  generalize (vev10_1 Tk.imm (vev17_0 Tk.imm (vev8_0 es) a b)) = c45
  generalize (vev12_1 Tk.imm (rev4_6 es a b id)) = c46
  generalize (vev13_1 Tk.imm (vev20_0 Tk.imm (vev8_0 es) id)) = c47
  generalize (vev12_1 Tk.imm (rev4_0 es a b id)) = c48
  generalize (vev12_1 Tk.imm (rev4_9 es a b id)) = c49
  generalize (vev10_1 Tk.imm (vev20_0 Tk.imm (vev8_0 es) id)) = c50
  generalize (vev23_1 Tk.imm es (vev22_0 Tk.imm es id)) = c51
  generalize (vev17_1 Tk.imm (vev8_0 es) a b) = c52
  generalize (vev10_1 Tk.imm (vev18_0 Tk.imm (vev8_0 es))) = c53
  generalize (vev13_1 Tk.imm (vev18_0 Tk.imm (vev8_0 es))) = c54
  generalize (vev10_1 Tk.lent (vev7_0 Tk.imm (vev8_0 es))) = c55
  generalize (vev19_2 Tk.imm (vev8_0 es) id a) = c56
  generalize (vev20_2 Tk.imm (vev8_0 es) id) = c57
  generalize (!vev18_3 Tk.imm (vev8_0 es)) = c58
  generalize (vev21_1 Tk.imm es a b) = c59
  generalize (vev22_1 Tk.imm es id) = c60
  generalize (vev10_1 Tk.imm (vev8_0 es)) = c61
  generalize (vev18_4 Tk.imm (vev8_0 es)) = c62
  generalize (vev7_1 Tk.imm (vev8_0 es)) = c63
  generalize (vev18_3 Tk.imm (vev8_0 es)) = c64
  generalize (vev14_1 Tk.imm es) = c65
  generalize (vev12_1 Tk.imm es) = c66
  generalize (vev8_1 es) = c67
  cases c7
  · skip
    cases c67
    · skip
      rfl
    · skip
      cases c52
      · skip
        rfl
      · skip
        cases c62
        · skip
          rfl
        · skip
          cases c56
          · skip
            rfl
          · skip
            cases c57
            · skip
              rfl
            · skip
              cases c42
              · skip
                rfl
              · skip
                cases c11
                · skip
                  cases c54
                  · skip
                    rfl
                  · skip
                    cases c15
                    · skip
                      cases c40
                      · skip
                        rfl
                      · skip
                        cases c12
                        · skip
                          cases c47
                          · skip
                            rfl
                          · skip
                            cases c13
                            · skip
                              cases c61
                              · skip
                                rfl
                              · skip
                                cases c43
                                · skip
                                  rfl
                                · skip
                                  cases c37
                                  · skip
                                    cases c66
                                    · skip
                                      rfl
                                    · skip
                                      cases c45
                                      · skip
                                        rfl
                                      · skip
                                        cases c48
                                        · skip
                                          rfl
                                        · skip
                                          cases c59
                                          · skip
                                            rfl
                                          · skip
                                            cases c27
                                            · skip
                                              rfl
                                            · skip
                                              cases c16
                                              · skip
                                                cases c2
                                                · skip
                                                  cases c64
                                                  · skip
                                                    cases c58
                                                    · skip
                                                      cases c65
                                                      · skip
                                                        rfl
                                                      · skip
                                                        cases c20
                                                        · skip
                                                          cases c60
                                                          · skip
                                                            rfl
                                                          · skip
                                                            cases c5
                                                            · skip
                                                              cases c6
                                                              · skip
                                                                cases c9
                                                                · skip
                                                                  cases c51
                                                                  · skip
                                                                    rfl
                                                                  · skip
                                                                    cases c50
                                                                    · skip
                                                                      rfl
                                                                    · skip
                                                                      cases c39
                                                                      · skip
                                                                        rfl
                                                                      · skip
                                                                        cases c36
                                                                        · skip
                                                                          rfl
                                                                        · skip
                                                                          cases c26
                                                                          · skip
                                                                            rfl
                                                                          · skip
                                                                            cases c28
                                                                            · skip
                                                                              rfl
                                                                            · skip
                                                                              cases c44
                                                                              · skip
                                                                                rfl
                                                                              · skip
                                                                                cases c46
                                                                                · skip
                                                                                  rfl
                                                                                · skip
                                                                                  cases c31
                                                                                  · skip
                                                                                    rfl
                                                                                  · skip
                                                                                    cases c29
                                                                                    · skip
                                                                                      rfl
                                                                                    · skip
                                                                                      cases c19
                                                                                      · skip
                                                                                        rfl
                                                                                      · skip
                                                                                        rfl
                                                                · skip
                                                                  cases c44
                                                                  · skip
                                                                    rfl
                                                                  · skip
                                                                    cases c46
                                                                    · skip
                                                                      rfl
                                                                    · skip
                                                                      cases c34
                                                                      · skip
                                                                        rfl
                                                                      · skip
                                                                        cases c32
                                                                        · skip
                                                                          rfl
                                                                        · skip
                                                                          cases c50
                                                                          · skip
                                                                            rfl
                                                                          · skip
                                                                            cases c39
                                                                            · skip
                                                                              rfl
                                                                            · skip
                                                                              cases c30
                                                                              · skip
                                                                                rfl
                                                                              · skip
                                                                                cases c33
                                                                                · skip
                                                                                  rfl
                                                                                · skip
                                                                                  rfl
                                                              · skip
                                                                rfl
                                                            · skip
                                                              rfl
                                                        · skip
                                                          cases c63
                                                          · skip
                                                            rfl
                                                          · skip
                                                            cases c55
                                                            · skip
                                                              rfl
                                                            · skip
                                                              cases c38
                                                              · skip
                                                                rfl
                                                              · skip
                                                                cases c3
                                                                · skip
                                                                  cases c4
                                                                  · skip
                                                                    cases c8
                                                                    · skip
                                                                      cases c18
                                                                      · skip
                                                                        rfl
                                                                      · skip
                                                                        cases c50
                                                                        · skip
                                                                          rfl
                                                                        · skip
                                                                          cases c39
                                                                          · skip
                                                                            rfl
                                                                          · skip
                                                                            cases c49
                                                                            · skip
                                                                              rfl
                                                                            · skip
                                                                              cases c22
                                                                              · skip
                                                                                rfl
                                                                              · skip
                                                                                cases c23
                                                                                · skip
                                                                                  rfl
                                                                                · skip
                                                                                  cases c44
                                                                                  · skip
                                                                                    rfl
                                                                                  · skip
                                                                                    cases c46
                                                                                    · skip
                                                                                      rfl
                                                                                    · skip
                                                                                      cases c35
                                                                                      · skip
                                                                                        rfl
                                                                                      · skip
                                                                                        cases c24
                                                                                        · skip
                                                                                          rfl
                                                                                        · skip
                                                                                          cases c25
                                                                                          · skip
                                                                                            rfl
                                                                                          · skip
                                                                                            rfl
                                                                    · skip
                                                                      cases c44
                                                                      · skip
                                                                        rfl
                                                                      · skip
                                                                        cases c46
                                                                        · skip
                                                                          rfl
                                                                        · skip
                                                                          cases c34
                                                                          · skip
                                                                            rfl
                                                                          · skip
                                                                            cases c32
                                                                            · skip
                                                                              rfl
                                                                            · skip
                                                                              cases c50
                                                                              · skip
                                                                                rfl
                                                                              · skip
                                                                                cases c39
                                                                                · skip
                                                                                  rfl
                                                                                · skip
                                                                                  cases c30
                                                                                  · skip
                                                                                    rfl
                                                                                  · skip
                                                                                    cases c33
                                                                                    · skip
                                                                                      rfl
                                                                                    · skip
                                                                                      rfl
                                                                  · skip
                                                                    rfl
                                                                · skip
                                                                  rfl
                                                    · skip
                                                      cases c10
                                                      · skip
                                                        cases c65
                                                        · skip
                                                          rfl
                                                        · skip
                                                          cases c20
                                                          · skip
                                                            cases c60
                                                            · skip
                                                              rfl
                                                            · skip
                                                              cases c5
                                                              · skip
                                                                cases c6
                                                                · skip
                                                                  cases c9
                                                                  · skip
                                                                    cases c51
                                                                    · skip
                                                                      rfl
                                                                    · skip
                                                                      cases c50
                                                                      · skip
                                                                        rfl
                                                                      · skip
                                                                        cases c39
                                                                        · skip
                                                                          rfl
                                                                        · skip
                                                                          cases c36
                                                                          · skip
                                                                            rfl
                                                                          · skip
                                                                            cases c26
                                                                            · skip
                                                                              rfl
                                                                            · skip
                                                                              cases c28
                                                                              · skip
                                                                                rfl
                                                                              · skip
                                                                                cases c44
                                                                                · skip
                                                                                  rfl
                                                                                · skip
                                                                                  cases c46
                                                                                  · skip
                                                                                    rfl
                                                                                  · skip
                                                                                    cases c31
                                                                                    · skip
                                                                                      rfl
                                                                                    · skip
                                                                                      cases c29
                                                                                      · skip
                                                                                        rfl
                                                                                      · skip
                                                                                        cases c19
                                                                                        · skip
                                                                                          rfl
                                                                                        · skip
                                                                                          rfl
                                                                  · skip
                                                                    cases c44
                                                                    · skip
                                                                      rfl
                                                                    · skip
                                                                      cases c46
                                                                      · skip
                                                                        rfl
                                                                      · skip
                                                                        cases c34
                                                                        · skip
                                                                          rfl
                                                                        · skip
                                                                          cases c32
                                                                          · skip
                                                                            rfl
                                                                          · skip
                                                                            cases c50
                                                                            · skip
                                                                              rfl
                                                                            · skip
                                                                              cases c39
                                                                              · skip
                                                                                rfl
                                                                              · skip
                                                                                cases c30
                                                                                · skip
                                                                                  rfl
                                                                                · skip
                                                                                  cases c33
                                                                                  · skip
                                                                                    rfl
                                                                                  · skip
                                                                                    rfl
                                                                · skip
                                                                  rfl
                                                              · skip
                                                                rfl
                                                          · skip
                                                            cases c63
                                                            · skip
                                                              rfl
                                                            · skip
                                                              cases c55
                                                              · skip
                                                                rfl
                                                              · skip
                                                                cases c38
                                                                · skip
                                                                  rfl
                                                                · skip
                                                                  cases c3
                                                                  · skip
                                                                    cases c4
                                                                    · skip
                                                                      cases c8
                                                                      · skip
                                                                        cases c18
                                                                        · skip
                                                                          rfl
                                                                        · skip
                                                                          cases c50
                                                                          · skip
                                                                            rfl
                                                                          · skip
                                                                            cases c39
                                                                            · skip
                                                                              rfl
                                                                            · skip
                                                                              cases c49
                                                                              · skip
                                                                                rfl
                                                                              · skip
                                                                                cases c22
                                                                                · skip
                                                                                  rfl
                                                                                · skip
                                                                                  cases c23
                                                                                  · skip
                                                                                    rfl
                                                                                  · skip
                                                                                    cases c44
                                                                                    · skip
                                                                                      rfl
                                                                                    · skip
                                                                                      cases c46
                                                                                      · skip
                                                                                        rfl
                                                                                      · skip
                                                                                        cases c35
                                                                                        · skip
                                                                                          rfl
                                                                                        · skip
                                                                                          cases c24
                                                                                          · skip
                                                                                            rfl
                                                                                          · skip
                                                                                            cases c25
                                                                                            · skip
                                                                                              rfl
                                                                                            · skip
                                                                                              rfl
                                                                      · skip
                                                                        cases c44
                                                                        · skip
                                                                          rfl
                                                                        · skip
                                                                          cases c46
                                                                          · skip
                                                                            rfl
                                                                          · skip
                                                                            cases c34
                                                                            · skip
                                                                              rfl
                                                                            · skip
                                                                              cases c32
                                                                              · skip
                                                                                rfl
                                                                              · skip
                                                                                cases c50
                                                                                · skip
                                                                                  rfl
                                                                                · skip
                                                                                  cases c39
                                                                                  · skip
                                                                                    rfl
                                                                                  · skip
                                                                                    cases c30
                                                                                    · skip
                                                                                      rfl
                                                                                    · skip
                                                                                      cases c33
                                                                                      · skip
                                                                                        rfl
                                                                                      · skip
                                                                                        rfl
                                                                    · skip
                                                                      rfl
                                                                  · skip
                                                                    rfl
                                                      · skip
                                                        rfl
                                                  · skip
                                                    cases c1
                                                    · skip
                                                      rfl
                                                    · skip
                                                      cases c0
                                                      · skip
                                                        cases c53
                                                        · skip
                                                          rfl
                                                        · skip
                                                          cases c41
                                                          · skip
                                                            rfl
                                                          · skip
                                                            cases c14
                                                            · skip
                                                              rfl
                                                            · skip
                                                              cases c21
                                                              · skip
                                                                rfl
                                                              · skip
                                                                cases c17
                                                                · skip
                                                                  cases c58
                                                                  · skip
                                                                    cases c65
                                                                    · skip
                                                                      rfl
                                                                    · skip
                                                                      cases c20
                                                                      · skip
                                                                        cases c60
                                                                        · skip
                                                                          rfl
                                                                        · skip
                                                                          cases c5
                                                                          · skip
                                                                            cases c6
                                                                            · skip
                                                                              cases c9
                                                                              · skip
                                                                                cases c51
                                                                                · skip
                                                                                  rfl
                                                                                · skip
                                                                                  cases c50
                                                                                  · skip
                                                                                    rfl
                                                                                  · skip
                                                                                    cases c39
                                                                                    · skip
                                                                                      rfl
                                                                                    · skip
                                                                                      cases c36
                                                                                      · skip
                                                                                        rfl
                                                                                      · skip
                                                                                        cases c26
                                                                                        · skip
                                                                                          rfl
                                                                                        · skip
                                                                                          cases c28
                                                                                          · skip
                                                                                            rfl
                                                                                          · skip
                                                                                            cases c44
                                                                                            · skip
                                                                                              rfl
                                                                                            · skip
                                                                                              cases c46
                                                                                              · skip
                                                                                                rfl
                                                                                              · skip
                                                                                                cases c31
                                                                                                · skip
                                                                                                  rfl
                                                                                                · skip
                                                                                                  cases c29
                                                                                                  · skip
                                                                                                    rfl
                                                                                                  · skip
                                                                                                    cases c19
                                                                                                    · skip
                                                                                                      rfl
                                                                                                    · skip
                                                                                                      rfl
                                                                              · skip
                                                                                cases c44
                                                                                · skip
                                                                                  rfl
                                                                                · skip
                                                                                  cases c46
                                                                                  · skip
                                                                                    rfl
                                                                                  · skip
                                                                                    cases c34
                                                                                    · skip
                                                                                      rfl
                                                                                    · skip
                                                                                      cases c32
                                                                                      · skip
                                                                                        rfl
                                                                                      · skip
                                                                                        cases c50
                                                                                        · skip
                                                                                          rfl
                                                                                        · skip
                                                                                          cases c39
                                                                                          · skip
                                                                                            rfl
                                                                                          · skip
                                                                                            cases c30
                                                                                            · skip
                                                                                              rfl
                                                                                            · skip
                                                                                              cases c33
                                                                                              · skip
                                                                                                rfl
                                                                                              · skip
                                                                                                rfl
                                                                            · skip
                                                                              rfl
                                                                          · skip
                                                                            rfl
                                                                      · skip
                                                                        cases c63
                                                                        · skip
                                                                          rfl
                                                                        · skip
                                                                          cases c55
                                                                          · skip
                                                                            rfl
                                                                          · skip
                                                                            cases c38
                                                                            · skip
                                                                              rfl
                                                                            · skip
                                                                              cases c3
                                                                              · skip
                                                                                cases c4
                                                                                · skip
                                                                                  cases c8
                                                                                  · skip
                                                                                    cases c18
                                                                                    · skip
                                                                                      rfl
                                                                                    · skip
                                                                                      cases c50
                                                                                      · skip
                                                                                        rfl
                                                                                      · skip
                                                                                        cases c39
                                                                                        · skip
                                                                                          rfl
                                                                                        · skip
                                                                                          cases c49
                                                                                          · skip
                                                                                            rfl
                                                                                          · skip
                                                                                            cases c22
                                                                                            · skip
                                                                                              rfl
                                                                                            · skip
                                                                                              cases c23
                                                                                              · skip
                                                                                                rfl
                                                                                              · skip
                                                                                                cases c44
                                                                                                · skip
                                                                                                  rfl
                                                                                                · skip
                                                                                                  cases c46
                                                                                                  · skip
                                                                                                    rfl
                                                                                                  · skip
                                                                                                    cases c35
                                                                                                    · skip
                                                                                                      rfl
                                                                                                    · skip
                                                                                                      cases c24
                                                                                                      · skip
                                                                                                        rfl
                                                                                                      · skip
                                                                                                        cases c25
                                                                                                        · skip
                                                                                                          rfl
                                                                                                        · skip
                                                                                                          rfl
                                                                                  · skip
                                                                                    cases c44
                                                                                    · skip
                                                                                      rfl
                                                                                    · skip
                                                                                      cases c46
                                                                                      · skip
                                                                                        rfl
                                                                                      · skip
                                                                                        cases c34
                                                                                        · skip
                                                                                          rfl
                                                                                        · skip
                                                                                          cases c32
                                                                                          · skip
                                                                                            rfl
                                                                                          · skip
                                                                                            cases c50
                                                                                            · skip
                                                                                              rfl
                                                                                            · skip
                                                                                              cases c39
                                                                                              · skip
                                                                                                rfl
                                                                                              · skip
                                                                                                cases c30
                                                                                                · skip
                                                                                                  rfl
                                                                                                · skip
                                                                                                  cases c33
                                                                                                  · skip
                                                                                                    rfl
                                                                                                  · skip
                                                                                                    rfl
                                                                                · skip
                                                                                  rfl
                                                                              · skip
                                                                                rfl
                                                                  · skip
                                                                    cases c10
                                                                    · skip
                                                                      cases c65
                                                                      · skip
                                                                        rfl
                                                                      · skip
                                                                        cases c20
                                                                        · skip
                                                                          cases c60
                                                                          · skip
                                                                            rfl
                                                                          · skip
                                                                            cases c5
                                                                            · skip
                                                                              cases c6
                                                                              · skip
                                                                                cases c9
                                                                                · skip
                                                                                  cases c51
                                                                                  · skip
                                                                                    rfl
                                                                                  · skip
                                                                                    cases c50
                                                                                    · skip
                                                                                      rfl
                                                                                    · skip
                                                                                      cases c39
                                                                                      · skip
                                                                                        rfl
                                                                                      · skip
                                                                                        cases c36
                                                                                        · skip
                                                                                          rfl
                                                                                        · skip
                                                                                          cases c26
                                                                                          · skip
                                                                                            rfl
                                                                                          · skip
                                                                                            cases c28
                                                                                            · skip
                                                                                              rfl
                                                                                            · skip
                                                                                              cases c44
                                                                                              · skip
                                                                                                rfl
                                                                                              · skip
                                                                                                cases c46
                                                                                                · skip
                                                                                                  rfl
                                                                                                · skip
                                                                                                  cases c31
                                                                                                  · skip
                                                                                                    rfl
                                                                                                  · skip
                                                                                                    cases c29
                                                                                                    · skip
                                                                                                      rfl
                                                                                                    · skip
                                                                                                      cases c19
                                                                                                      · skip
                                                                                                        rfl
                                                                                                      · skip
                                                                                                        rfl
                                                                                · skip
                                                                                  cases c44
                                                                                  · skip
                                                                                    rfl
                                                                                  · skip
                                                                                    cases c46
                                                                                    · skip
                                                                                      rfl
                                                                                    · skip
                                                                                      cases c34
                                                                                      · skip
                                                                                        rfl
                                                                                      · skip
                                                                                        cases c32
                                                                                        · skip
                                                                                          rfl
                                                                                        · skip
                                                                                          cases c50
                                                                                          · skip
                                                                                            rfl
                                                                                          · skip
                                                                                            cases c39
                                                                                            · skip
                                                                                              rfl
                                                                                            · skip
                                                                                              cases c30
                                                                                              · skip
                                                                                                rfl
                                                                                              · skip
                                                                                                cases c33
                                                                                                · skip
                                                                                                  rfl
                                                                                                · skip
                                                                                                  rfl
                                                                              · skip
                                                                                rfl
                                                                            · skip
                                                                              rfl
                                                                        · skip
                                                                          cases c63
                                                                          · skip
                                                                            rfl
                                                                          · skip
                                                                            cases c55
                                                                            · skip
                                                                              rfl
                                                                            · skip
                                                                              cases c38
                                                                              · skip
                                                                                rfl
                                                                              · skip
                                                                                cases c3
                                                                                · skip
                                                                                  cases c4
                                                                                  · skip
                                                                                    cases c8
                                                                                    · skip
                                                                                      cases c18
                                                                                      · skip
                                                                                        rfl
                                                                                      · skip
                                                                                        cases c50
                                                                                        · skip
                                                                                          rfl
                                                                                        · skip
                                                                                          cases c39
                                                                                          · skip
                                                                                            rfl
                                                                                          · skip
                                                                                            cases c49
                                                                                            · skip
                                                                                              rfl
                                                                                            · skip
                                                                                              cases c22
                                                                                              · skip
                                                                                                rfl
                                                                                              · skip
                                                                                                cases c23
                                                                                                · skip
                                                                                                  rfl
                                                                                                · skip
                                                                                                  cases c44
                                                                                                  · skip
                                                                                                    rfl
                                                                                                  · skip
                                                                                                    cases c46
                                                                                                    · skip
                                                                                                      rfl
                                                                                                    · skip
                                                                                                      cases c35
                                                                                                      · skip
                                                                                                        rfl
                                                                                                      · skip
                                                                                                        cases c24
                                                                                                        · skip
                                                                                                          rfl
                                                                                                        · skip
                                                                                                          cases c25
                                                                                                          · skip
                                                                                                            rfl
                                                                                                          · skip
                                                                                                            rfl
                                                                                    · skip
                                                                                      cases c44
                                                                                      · skip
                                                                                        rfl
                                                                                      · skip
                                                                                        cases c46
                                                                                        · skip
                                                                                          rfl
                                                                                        · skip
                                                                                          cases c34
                                                                                          · skip
                                                                                            rfl
                                                                                          · skip
                                                                                            cases c32
                                                                                            · skip
                                                                                              rfl
                                                                                            · skip
                                                                                              cases c50
                                                                                              · skip
                                                                                                rfl
                                                                                              · skip
                                                                                                cases c39
                                                                                                · skip
                                                                                                  rfl
                                                                                                · skip
                                                                                                  cases c30
                                                                                                  · skip
                                                                                                    rfl
                                                                                                  · skip
                                                                                                    cases c33
                                                                                                    · skip
                                                                                                      rfl
                                                                                                    · skip
                                                                                                      rfl
                                                                                  · skip
                                                                                    rfl
                                                                                · skip
                                                                                  rfl
                                                                    · skip
                                                                      rfl
                                                                · skip
                                                                  rfl
                                                      · skip
                                                        rfl
                                                · skip
                                                  rfl
                                              · skip
                                                rfl
                                  · skip
                                    rfl
                            · skip
                              rfl
                        · skip
                          rfl
                    · skip
                      rfl
                · skip
                  rfl
  · skip
    rfl
-- spec vev4_1 es a b id ;; (AV.bool (vev4_0 es a b id), [])
-- law 4: loops (fun c _ => LoopsOK.none (fun _ _ => rfl) c) gam k9
end Go.Proofs.Gv
