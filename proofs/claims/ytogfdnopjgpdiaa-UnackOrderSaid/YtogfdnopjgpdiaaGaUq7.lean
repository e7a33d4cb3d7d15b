import Derived.Test.YtogfdnopjgpdiaaGt
import Derived.KernelRfl
import Derived.Test.YtogfdnopjgpdiaaGwF
import Derived.Test.YtogfdnopjgpdiaaGaUq3
namespace Go.Proofs.Gv
open Go.Proofs
set_option linter.unusedVariables false
noncomputable def rn5_6_0 (t0 : List (List AV)) (t3 : List (List AV)) (t5 : Int) (b1 : List (List AV)) : List (List AV) := elsO ((t0.getD t5.toNat []).getD (0 : Nat) AV.junk)
noncomputable def rn5_6_1 (t0 : List (List AV)) (t3 : List (List AV)) (t5 : Int) (b1 : List (List AV)) : Int := (↑(rn5_6_0 t0 t3 t5 b1).length : Int)
noncomputable def rn5_6_2 (t0 : List (List AV)) (t3 : List (List AV)) (t5 : Int) (b1 : List (List AV)) : Int := vev10_1 Tk.imm t3 Tk.imm (rn5_6_0 t0 t3 t5 b1) t5
noncomputable def rn5_6_3 (t0 : List (List AV)) (t3 : List (List AV)) (t5 : Int) (b1 : List (List AV)) : List (List AV) := [[AV.sl Tk.imm [Kd.int IntKind.u16, Kd.int IntKind.u32] (rn5_6_0 t0 t3 t5 b1)]]
noncomputable def rn5_6_4 (t0 : List (List AV)) (t3 : List (List AV)) (t5 : Int) (b1 : List (List AV)) : List (List AV) := vev10_0 Tk.imm t3 Tk.imm (rn5_6_0 t0 t3 t5 b1) t5
noncomputable def rn5_6_5 (t0 : List (List AV)) (t3 : List (List AV)) (t5 : Int) (b1 : List (List AV)) : Int := (↑(rn5_6_4 t0 t3 t5 b1).length : Int)
noncomputable def rn5_6_6 (t0 : List (List AV)) (t3 : List (List AV)) (t5 : Int) (b1 : List (List AV)) : List (List AV) := b1 ++ rn5_6_3 t0 t3 t5 b1
noncomputable def rn5_6_7 (t0 : List (List AV)) (t3 : List (List AV)) (t5 : Int) (b1 : List (List AV)) : Int := (↑(rn5_6_6 t0 t3 t5 b1).length : Int)
noncomputable def rn5_6_8 (t0 : List (List AV)) (t3 : List (List AV)) (t5 : Int) (b1 : List (List AV)) : List (List AV) := elsO ((b1.getD (Int.toNat (0 : Int)) []).getD (0 : Nat) AV.junk)
noncomputable def go5_6 (t0 : List (List AV)) (t3 : List (List AV)) (t5 : Int) (b1 : List (List AV)) : Bool := bif decide (t5 < (↑t0.length : Int)) then bif decide ((0 : Int) ≤ t5) && decide (t5 < (↑t0.length : Int)) then bif decide (rn5_6_1 t0 t3 t5 b1 > (8 : Int)) then false else bif decide (rn5_6_1 t0 t3 t5 b1 > (0 : Int)) then bif vev10_2 Tk.imm t3 Tk.imm (rn5_6_0 t0 t3 t5 b1) t5 then bif bif !(rn5_6_2 t0 t3 t5 b1 == (0 : Int)) == decide ((↑b1.length : Int) < (4 : Int)) then true else bif rn5_6_2 t0 t3 t5 b1 != (0 : Int) then rn5_6_2 t0 t3 t5 b1 != (7 : Int) else false then false else bif rn5_6_2 t0 t3 t5 b1 == (0 : Int) then bif bif decide ((b1.length + (rn5_6_3 t0 t3 t5 b1).length) * (24 : Nat) ≤ (140737488355328 : Nat)) then decide (b1.length + (rn5_6_3 t0 t3 t5 b1).length ≤ (9223372036854775807 : Nat)) else false then bif bif bif decide (rn5_6_5 t0 t3 t5 b1 = rn5_6_7 t0 t3 t5 b1) then false else true then true else vev17_1 Tk.imm (rn5_6_4 t0 t3 t5 b1) then bif bif bif decide (rn5_6_5 t0 t3 t5 b1 = rn5_6_7 t0 t3 t5 b1) then false else true then true else bif vev17_1 Tk.imm (rn5_6_4 t0 t3 t5 b1) then vev17_0 Tk.imm (rn5_6_4 t0 t3 t5 b1) != (0 : Int) else false then false else true else false else false else bif bif rn5_6_5 t0 t3 t5 b1 != (↑b1.length : Int) then true else vev17_1 Tk.imm (rn5_6_4 t0 t3 t5 b1) then bif bif rn5_6_5 t0 t3 t5 b1 != (↑b1.length : Int) then true else bif vev17_1 Tk.imm (rn5_6_4 t0 t3 t5 b1) then vev17_0 Tk.imm (rn5_6_4 t0 t3 t5 b1) != (0 : Int) else false then false else true else false else false else bif vev12_3 Tk.imm t3 then bif bif !vev12_2 Tk.imm t3 == decide ((↑b1.length : Int) > (0 : Int)) then true else bif vev12_2 Tk.imm t3 then bif decide ((0 : Int) ≤ (0 : Int)) && decide ((0 : Int) < (↑b1.length : Int)) then vev16_1 Tk.imm (vev12_1 Tk.imm t3) Tk.imm (rn5_6_8 t0 t3 t5 b1) else false else true then bif bif !vev12_2 Tk.imm t3 == decide ((↑b1.length : Int) > (0 : Int)) then true else bif vev12_2 Tk.imm t3 then bif decide ((0 : Int) ≤ (0 : Int)) && decide ((0 : Int) < (↑b1.length : Int)) then bif vev16_1 Tk.imm (vev12_1 Tk.imm t3) Tk.imm (rn5_6_8 t0 t3 t5 b1) then !vev16_0 Tk.imm (vev12_1 Tk.imm t3) Tk.imm (rn5_6_8 t0 t3 t5 b1) else false else false else false then false else bif vev12_2 Tk.imm t3 then bif bnd (1 : Int) (↑b1.length : Int) (↑b1.length : Int) then bif bif (↑(vev12_0 Tk.imm t3).length : Int) != (↑(b1.length - Int.toNat (1 : Int)) : Int) then true else vev17_1 Tk.imm (vev12_0 Tk.imm t3) then bif bif (↑(vev12_0 Tk.imm t3).length : Int) != (↑(b1.length - Int.toNat (1 : Int)) : Int) then true else bif vev17_1 Tk.imm (vev12_0 Tk.imm t3) then vev17_0 Tk.imm (vev12_0 Tk.imm t3) != (0 : Int) else false then false else true else false else false else bif bif (↑(vev12_0 Tk.imm t3).length : Int) != (↑b1.length : Int) then true else vev17_1 Tk.imm (vev12_0 Tk.imm t3) then bif bif (↑(vev12_0 Tk.imm t3).length : Int) != (↑b1.length : Int) then true else bif vev17_1 Tk.imm (vev12_0 Tk.imm t3) then vev17_0 Tk.imm (vev12_0 Tk.imm t3) != (0 : Int) else false then false else true else false else false else false else false else false
noncomputable def nx5_6_1 (t0 : List (List AV)) (t3 : List (List AV)) (t5 : Int) (b1 : List (List AV)) : List (List AV) := bif decide (rn5_6_1 t0 t3 t5 b1 > (0 : Int)) then rn5_6_4 t0 t3 t5 b1 else vev12_0 Tk.imm t3
noncomputable def nx5_6_2 (t0 : List (List AV)) (t3 : List (List AV)) (t5 : Int) (b1 : List (List AV)) : Int := IntKind.i64.wrap (t5 + (1 : Int))
noncomputable def nx5_6_3 (t0 : List (List AV)) (t3 : List (List AV)) (t5 : Int) (b1 : List (List AV)) : List (List AV) := bif decide (rn5_6_1 t0 t3 t5 b1 > (0 : Int)) then bif rn5_6_2 t0 t3 t5 b1 == (0 : Int) then rn5_6_6 t0 t3 t5 b1 else b1 else bif vev12_2 Tk.imm t3 then List.take (b1.length - Int.toNat (1 : Int)) (List.drop (Int.toNat (1 : Int)) b1) else b1
noncomputable def xc5_6_0 (t0 : List (List AV)) (t3 : List (List AV)) (t5 : Int) (b1 : List (List AV)) : Bool := bif decide (t5 < (↑t0.length : Int)) then bif decide ((0 : Int) ≤ t5) && decide (t5 < (↑t0.length : Int)) then bif decide (rn5_6_1 t0 t3 t5 b1 > (8 : Int)) then true else bif decide (rn5_6_1 t0 t3 t5 b1 > (0 : Int)) then bif vev10_2 Tk.imm t3 Tk.imm (rn5_6_0 t0 t3 t5 b1) t5 then bif bif !(rn5_6_2 t0 t3 t5 b1 == (0 : Int)) == decide ((↑b1.length : Int) < (4 : Int)) then true else bif rn5_6_2 t0 t3 t5 b1 != (0 : Int) then rn5_6_2 t0 t3 t5 b1 != (7 : Int) else false then true else bif rn5_6_2 t0 t3 t5 b1 == (0 : Int) then bif bif decide ((b1.length + (rn5_6_3 t0 t3 t5 b1).length) * (24 : Nat) ≤ (140737488355328 : Nat)) then decide (b1.length + (rn5_6_3 t0 t3 t5 b1).length ≤ (9223372036854775807 : Nat)) else false then bif bif bif decide (rn5_6_5 t0 t3 t5 b1 = rn5_6_7 t0 t3 t5 b1) then false else true then true else vev17_1 Tk.imm (rn5_6_4 t0 t3 t5 b1) then bif bif decide (rn5_6_5 t0 t3 t5 b1 = rn5_6_7 t0 t3 t5 b1) then false else true then true else bif vev17_1 Tk.imm (rn5_6_4 t0 t3 t5 b1) then vev17_0 Tk.imm (rn5_6_4 t0 t3 t5 b1) != (0 : Int) else false else false else false else bif bif rn5_6_5 t0 t3 t5 b1 != (↑b1.length : Int) then true else vev17_1 Tk.imm (rn5_6_4 t0 t3 t5 b1) then bif rn5_6_5 t0 t3 t5 b1 != (↑b1.length : Int) then true else bif vev17_1 Tk.imm (rn5_6_4 t0 t3 t5 b1) then vev17_0 Tk.imm (rn5_6_4 t0 t3 t5 b1) != (0 : Int) else false else false else false else bif vev12_3 Tk.imm t3 then bif bif !vev12_2 Tk.imm t3 == decide ((↑b1.length : Int) > (0 : Int)) then true else bif vev12_2 Tk.imm t3 then bif decide ((0 : Int) ≤ (0 : Int)) && decide ((0 : Int) < (↑b1.length : Int)) then vev16_1 Tk.imm (vev12_1 Tk.imm t3) Tk.imm (rn5_6_8 t0 t3 t5 b1) else false else true then bif bif !vev12_2 Tk.imm t3 == decide ((↑b1.length : Int) > (0 : Int)) then true else bif vev12_2 Tk.imm t3 then bif decide ((0 : Int) ≤ (0 : Int)) && decide ((0 : Int) < (↑b1.length : Int)) then bif vev16_1 Tk.imm (vev12_1 Tk.imm t3) Tk.imm (rn5_6_8 t0 t3 t5 b1) then !vev16_0 Tk.imm (vev12_1 Tk.imm t3) Tk.imm (rn5_6_8 t0 t3 t5 b1) else false else false else false then true else bif vev12_2 Tk.imm t3 then bif bnd (1 : Int) (↑b1.length : Int) (↑b1.length : Int) then bif bif (↑(vev12_0 Tk.imm t3).length : Int) != (↑(b1.length - Int.toNat (1 : Int)) : Int) then true else vev17_1 Tk.imm (vev12_0 Tk.imm t3) then bif (↑(vev12_0 Tk.imm t3).length : Int) != (↑(b1.length - Int.toNat (1 : Int)) : Int) then true else bif vev17_1 Tk.imm (vev12_0 Tk.imm t3) then vev17_0 Tk.imm (vev12_0 Tk.imm t3) != (0 : Int) else false else false else false else bif bif (↑(vev12_0 Tk.imm t3).length : Int) != (↑b1.length : Int) then true else vev17_1 Tk.imm (vev12_0 Tk.imm t3) then bif (↑(vev12_0 Tk.imm t3).length : Int) != (↑b1.length : Int) then true else bif vev17_1 Tk.imm (vev12_0 Tk.imm t3) then vev17_0 Tk.imm (vev12_0 Tk.imm t3) != (0 : Int) else false else false else false else false else false else false
noncomputable def xv5_6_0_0 (t0 : List (List AV)) (t3 : List (List AV)) (t5 : Int) (b1 : List (List AV)) : Bool := bif decide (rn5_6_1 t0 t3 t5 b1 > (8 : Int)) then true else false
noncomputable def xc5_6_1 (t0 : List (List AV)) (t3 : List (List AV)) (t5 : Int) (b1 : List (List AV)) : Bool := bif decide (t5 < (↑t0.length : Int)) then false else true
theorem rd5_6 (rest : Lsp) (t0 : List (List AV)) (t3 : List (List AV)) (t5 : Int) (b1 : List (List AV)) : roundV (cfg Try.prog tab 100000 (gk k11 30) rest 5 0 Try.f5.ntmps) (loopAt Try.f5 6) [0, 3, 4, 5] [0, 1] [2] [] [AV.sl Tk.imm [Kd.sl [Kd.int IntKind.u16, Kd.int IntKind.u32]] t0, AV.sl Tk.imm [Kd.sl [Kd.int IntKind.u16, Kd.int IntKind.u32], Kd.int IntKind.i64] t3, AV.rf (nat_lit 1) [Kd.sl [Kd.int IntKind.u16, Kd.int IntKind.u32]], AV.int IntKind.i64 t5] [Blk.dead, Blk.row [Kd.sl [Kd.int IntKind.u16, Kd.int IntKind.u32]] b1] = bif go5_6 t0 t3 t5 b1 then some (Ex.norm, [AV.sl Tk.imm [Kd.sl [Kd.int IntKind.u16, Kd.int IntKind.u32]] t0, AV.sl Tk.imm [Kd.sl [Kd.int IntKind.u16, Kd.int IntKind.u32], Kd.int IntKind.i64] (nx5_6_1 t0 t3 t5 b1), AV.rf (nat_lit 1) [Kd.sl [Kd.int IntKind.u16, Kd.int IntKind.u32]], AV.int IntKind.i64 (nx5_6_2 t0 t3 t5 b1)], [Blk.dead, Blk.row [Kd.sl [Kd.int IntKind.u16, Kd.int IntKind.u32]] (nx5_6_3 t0 t3 t5 b1)]) else bif xc5_6_0 t0 t3 t5 b1 then some (Ex.ret, [AV.bool (xv5_6_0_0 t0 t3 t5 b1)], []) else bif xc5_6_1 t0 t3 t5 b1 then some (Ex.exit (nat_lit 0), [AV.junk], []) else none := by
  have h : roundV (cfg Try.prog tab 100000 (gk k11 30) rest 5 0 Try.f5.ntmps) (loopAt Try.f5 6) [0, 3, 4, 5] [0, 1] [2] [] [AV.sl Tk.imm [Kd.sl [Kd.int IntKind.u16, Kd.int IntKind.u32]] t0, AV.sl Tk.imm [Kd.sl [Kd.int IntKind.u16, Kd.int IntKind.u32], Kd.int IntKind.i64] t3, AV.rf (nat_lit 1) [Kd.sl [Kd.int IntKind.u16, Kd.int IntKind.u32]], AV.int IntKind.i64 t5] [Blk.dead, Blk.row [Kd.sl [Kd.int IntKind.u16, Kd.int IntKind.u32]] b1] = bif decide (t5 < (↑t0.length : Int)) then bif decide ((0 : Int) ≤ t5) && decide (t5 < (↑t0.length : Int)) then bif decide (rn5_6_1 t0 t3 t5 b1 > (8 : Int)) then some (Ex.ret, [AV.bool true], []) else bif decide ((0 : Int) ≤ t5) && decide (t5 < (↑t0.length : Int)) then bif decide (rn5_6_1 t0 t3 t5 b1 > (0 : Int)) then bif decide ((0 : Int) ≤ t5) && decide (t5 < (↑t0.length : Int)) then bif vev10_2 Tk.imm t3 Tk.imm (rn5_6_0 t0 t3 t5 b1) t5 then bif bif !(rn5_6_2 t0 t3 t5 b1 == (0 : Int)) == decide ((↑b1.length : Int) < (4 : Int)) then true else bif rn5_6_2 t0 t3 t5 b1 != (0 : Int) then true else true then bif bif !(rn5_6_2 t0 t3 t5 b1 == (0 : Int)) == decide ((↑b1.length : Int) < (4 : Int)) then true else bif rn5_6_2 t0 t3 t5 b1 != (0 : Int) then bif false then true else bif true then rn5_6_2 t0 t3 t5 b1 != (7 : Int) else false else bif false then true else false then some (Ex.ret, [AV.bool false], []) else bif rn5_6_2 t0 t3 t5 b1 == (0 : Int) then bif decide ((0 : Int) ≤ t5) && decide (t5 < (↑t0.length : Int)) then bif bif decide ((b1.length + (rn5_6_3 t0 t3 t5 b1).length) * (24 : Nat) ≤ (140737488355328 : Nat)) then decide (b1.length + (rn5_6_3 t0 t3 t5 b1).length ≤ (9223372036854775807 : Nat)) else false then bif bif bif decide (rn5_6_5 t0 t3 t5 b1 = rn5_6_7 t0 t3 t5 b1) then false else true then true else bif vev17_1 Tk.imm (rn5_6_4 t0 t3 t5 b1) then true else false then bif bif bif decide (rn5_6_5 t0 t3 t5 b1 = rn5_6_7 t0 t3 t5 b1) then false else true then true else bif vev17_1 Tk.imm (rn5_6_4 t0 t3 t5 b1) then bif false then true else vev17_0 Tk.imm (rn5_6_4 t0 t3 t5 b1) != (0 : Int) else false then some (Ex.ret, [AV.bool false], []) else some (Ex.norm, [AV.sl Tk.imm [Kd.sl [Kd.int IntKind.u16, Kd.int IntKind.u32]] t0, AV.sl Tk.imm [Kd.sl [Kd.int IntKind.u16, Kd.int IntKind.u32], Kd.int IntKind.i64] (rn5_6_4 t0 t3 t5 b1), AV.rf (nat_lit 1) [Kd.sl [Kd.int IntKind.u16, Kd.int IntKind.u32]], AV.int IntKind.i64 (IntKind.i64.wrap (t5 + (1 : Int)))], [Blk.dead, Blk.row [Kd.sl [Kd.int IntKind.u16, Kd.int IntKind.u32]] (rn5_6_6 t0 t3 t5 b1)]) else none else none else none else bif bif rn5_6_5 t0 t3 t5 b1 != (↑b1.length : Int) then true else bif vev17_1 Tk.imm (rn5_6_4 t0 t3 t5 b1) then true else false then bif bif rn5_6_5 t0 t3 t5 b1 != (↑b1.length : Int) then true else bif vev17_1 Tk.imm (rn5_6_4 t0 t3 t5 b1) then bif false then true else vev17_0 Tk.imm (rn5_6_4 t0 t3 t5 b1) != (0 : Int) else false then some (Ex.ret, [AV.bool false], []) else some (Ex.norm, [AV.sl Tk.imm [Kd.sl [Kd.int IntKind.u16, Kd.int IntKind.u32]] t0, AV.sl Tk.imm [Kd.sl [Kd.int IntKind.u16, Kd.int IntKind.u32], Kd.int IntKind.i64] (rn5_6_4 t0 t3 t5 b1), AV.rf (nat_lit 1) [Kd.sl [Kd.int IntKind.u16, Kd.int IntKind.u32]], AV.int IntKind.i64 (IntKind.i64.wrap (t5 + (1 : Int)))], [Blk.dead, Blk.row [Kd.sl [Kd.int IntKind.u16, Kd.int IntKind.u32]] b1]) else none else none else none else none else bif vev12_3 Tk.imm t3 then bif bif !vev12_2 Tk.imm t3 == decide ((↑b1.length : Int) > (0 : Int)) then true else bif vev12_2 Tk.imm t3 then bif decide ((0 : Int) ≤ (0 : Int)) && decide ((0 : Int) < (↑b1.length : Int)) then bif vev16_1 Tk.imm (vev12_1 Tk.imm t3) Tk.imm (rn5_6_8 t0 t3 t5 b1) then true else false else false else true then bif bif !vev12_2 Tk.imm t3 == decide ((↑b1.length : Int) > (0 : Int)) then true else bif vev12_2 Tk.imm t3 then bif decide ((0 : Int) ≤ (0 : Int)) && decide ((0 : Int) < (↑b1.length : Int)) then bif vev16_1 Tk.imm (vev12_1 Tk.imm t3) Tk.imm (rn5_6_8 t0 t3 t5 b1) then bif false then true else bif true then !vev16_0 Tk.imm (vev12_1 Tk.imm t3) Tk.imm (rn5_6_8 t0 t3 t5 b1) else false else false else false else bif false then true else false then some (Ex.ret, [AV.bool false], []) else bif vev12_2 Tk.imm t3 then bif bnd (1 : Int) (↑b1.length : Int) (↑b1.length : Int) then bif bif (↑(vev12_0 Tk.imm t3).length : Int) != (↑(b1.length - Int.toNat (1 : Int)) : Int) then true else bif vev17_1 Tk.imm (vev12_0 Tk.imm t3) then true else false then bif bif (↑(vev12_0 Tk.imm t3).length : Int) != (↑(b1.length - Int.toNat (1 : Int)) : Int) then true else bif vev17_1 Tk.imm (vev12_0 Tk.imm t3) then bif false then true else vev17_0 Tk.imm (vev12_0 Tk.imm t3) != (0 : Int) else false then some (Ex.ret, [AV.bool false], []) else some (Ex.norm, [AV.sl Tk.imm [Kd.sl [Kd.int IntKind.u16, Kd.int IntKind.u32]] t0, AV.sl Tk.imm [Kd.sl [Kd.int IntKind.u16, Kd.int IntKind.u32], Kd.int IntKind.i64] (vev12_0 Tk.imm t3), AV.rf (nat_lit 1) [Kd.sl [Kd.int IntKind.u16, Kd.int IntKind.u32]], AV.int IntKind.i64 (IntKind.i64.wrap (t5 + (1 : Int)))], [Blk.dead, Blk.row [Kd.sl [Kd.int IntKind.u16, Kd.int IntKind.u32]] (List.take (b1.length - Int.toNat (1 : Int)) (List.drop (Int.toNat (1 : Int)) b1))]) else none else none else bif bif (↑(vev12_0 Tk.imm t3).length : Int) != (↑b1.length : Int) then true else bif vev17_1 Tk.imm (vev12_0 Tk.imm t3) then true else false then bif bif (↑(vev12_0 Tk.imm t3).length : Int) != (↑b1.length : Int) then true else bif vev17_1 Tk.imm (vev12_0 Tk.imm t3) then bif false then true else vev17_0 Tk.imm (vev12_0 Tk.imm t3) != (0 : Int) else false then some (Ex.ret, [AV.bool false], []) else some (Ex.norm, [AV.sl Tk.imm [Kd.sl [Kd.int IntKind.u16, Kd.int IntKind.u32]] t0, AV.sl Tk.imm [Kd.sl [Kd.int IntKind.u16, Kd.int IntKind.u32], Kd.int IntKind.i64] (vev12_0 Tk.imm t3), AV.rf (nat_lit 1) [Kd.sl [Kd.int IntKind.u16, Kd.int IntKind.u32]], AV.int IntKind.i64 (IntKind.i64.wrap (t5 + (1 : Int)))], [Blk.dead, Blk.row [Kd.sl [Kd.int IntKind.u16, Kd.int IntKind.u32]] b1]) else none else none else none else none else none else some (Ex.exit (nat_lit 0), [AV.junk], []) := by kernel_rfl
  rw [h]
  clear h
  unfold go5_6 nx5_6_1 nx5_6_2 nx5_6_3 xc5_6_0 xv5_6_0_0 xc5_6_1
  generalize (decide ((b1.length + (rn5_6_3 t0 t3 t5 b1).length) * (24 : Nat) ≤ (140737488355328 : Nat))) = c0
  generalize (decide ((0 : Int) ≤ (0 : Int)) && decide ((0 : Int) < (↑b1.length : Int))) = c1
  generalize (decide (b1.length + (rn5_6_3 t0 t3 t5 b1).length ≤ (9223372036854775807 : Nat))) = c2
  generalize (!(rn5_6_2 t0 t3 t5 b1 == (0 : Int)) == decide ((↑b1.length : Int) < (4 : Int))) = c3
  generalize (decide ((0 : Int) ≤ t5) && decide (t5 < (↑t0.length : Int))) = c4
  generalize (!vev12_2 Tk.imm t3 == decide ((↑b1.length : Int) > (0 : Int))) = c5
  generalize ((↑(vev12_0 Tk.imm t3).length : Int) != (↑(b1.length - Int.toNat (1 : Int)) : Int)) = c6
  generalize (decide (rn5_6_1 t0 t3 t5 b1 > (0 : Int))) = c7
  generalize (decide (rn5_6_1 t0 t3 t5 b1 > (8 : Int))) = c8
  generalize (decide (rn5_6_5 t0 t3 t5 b1 = rn5_6_7 t0 t3 t5 b1)) = c9
  generalize ((↑(vev12_0 Tk.imm t3).length : Int) != (↑b1.length : Int)) = c10
  generalize (decide (t5 < (↑t0.length : Int))) = c11
  generalize (bnd (1 : Int) (↑b1.length : Int) (↑b1.length : Int)) = c12
  generalize (rn5_6_5 t0 t3 t5 b1 != (↑b1.length : Int)) = c13
  generalize (vev17_0 Tk.imm (rn5_6_4 t0 t3 t5 b1) != (0 : Int)) = c14
  generalize (rn5_6_2 t0 t3 t5 b1 != (0 : Int)) = c15
  generalize (rn5_6_2 t0 t3 t5 b1 == (0 : Int)) = c16
  generalize (rn5_6_2 t0 t3 t5 b1 != (7 : Int)) = c17
  generalize (vev17_0 Tk.imm (vev12_0 Tk.imm t3) != (0 : Int)) = c18
  generalize (!vev16_0 Tk.imm (vev12_1 Tk.imm t3) Tk.imm (rn5_6_8 t0 t3 t5 b1)) = c19
  generalize (vev16_1 Tk.imm (vev12_1 Tk.imm t3) Tk.imm (rn5_6_8 t0 t3 t5 b1)) = c20
  generalize (vev10_2 Tk.imm t3 Tk.imm (rn5_6_0 t0 t3 t5 b1) t5) = c21
  generalize (vev17_1 Tk.imm (rn5_6_4 t0 t3 t5 b1)) = c22
  generalize (vev17_1 Tk.imm (vev12_0 Tk.imm t3)) = c23
  generalize (vev12_3 Tk.imm t3) = c24
  generalize (vev12_2 Tk.imm t3) = c25
  cases c11
  · skip
    rfl
  · skip
    cases c4
    · skip
      rfl
    · skip
      cases c8
      · skip
        cases c7
        · skip
          cases c24
          · skip
            rfl
          · skip
            cases c5
            · skip
              cases c25
              · skip
                cases c10
                · skip
                  cases c23
                  · skip
                    rfl
                  · skip
                    cases c18
                    · skip
                      rfl
                    · skip
                      rfl
                · skip
                  rfl
              · skip
                cases c1
                · skip
                  rfl
                · skip
                  cases c20
                  · skip
                    rfl
                  · skip
                    cases c19
                    · skip
                      cases c12
                      · skip
                        rfl
                      · skip
                        cases c6
                        · skip
                          cases c23
                          · skip
                            rfl
                          · skip
                            cases c18
                            · skip
                              rfl
                            · skip
                              rfl
                        · skip
                          rfl
                    · skip
                      rfl
            · skip
              rfl
        · skip
          cases c21
          · skip
            rfl
          · skip
            cases c3
            · skip
              cases c15
              · skip
                cases c16
                · skip
                  cases c13
                  · skip
                    cases c22
                    · skip
                      rfl
                    · skip
                      cases c14
                      · skip
                        rfl
                      · skip
                        rfl
                  · skip
                    rfl
                · skip
                  cases c0
                  · skip
                    rfl
                  · skip
                    cases c2
                    · skip
                      rfl
                    · skip
                      cases c9
                      · skip
                        rfl
                      · skip
                        cases c22
                        · skip
                          rfl
                        · skip
                          cases c14
                          · skip
                            rfl
                          · skip
                            rfl
              · skip
                cases c17
                · skip
                  cases c16
                  · skip
                    cases c13
                    · skip
                      cases c22
                      · skip
                        rfl
                      · skip
                        cases c14
                        · skip
                          rfl
                        · skip
                          rfl
                    · skip
                      rfl
                  · skip
                    cases c0
                    · skip
                      rfl
                    · skip
                      cases c2
                      · skip
                        rfl
                      · skip
                        cases c9
                        · skip
                          rfl
                        · skip
                          cases c22
                          · skip
                            rfl
                          · skip
                            cases c14
                            · skip
                              rfl
                            · skip
                              rfl
                · skip
                  rfl
            · skip
              rfl
      · skip
        rfl
abbrev pl5_6 : Type := (List (List AV))
abbrev sl5_6 : Type := (List (List AV)) × Int × (List (List AV))
noncomputable def vt5_6 (a : pl5_6 × sl5_6) : List AV := [AV.sl Tk.imm [Kd.sl [Kd.int IntKind.u16, Kd.int IntKind.u32]] a.1, AV.sl Tk.imm [Kd.sl [Kd.int IntKind.u16, Kd.int IntKind.u32], Kd.int IntKind.i64] a.2.1, AV.rf (nat_lit 1) [Kd.sl [Kd.int IntKind.u16, Kd.int IntKind.u32]], AV.int IntKind.i64 a.2.2.1]
noncomputable def vc5_6 (a : pl5_6 × sl5_6) : List Blk := [Blk.dead, Blk.row [Kd.sl [Kd.int IntKind.u16, Kd.int IntKind.u32]] a.2.2.2]
noncomputable def de5_6 (vt : List AV) (vc : List Blk) : Option (pl5_6 × sl5_6) :=
  match vt with
  | [qa0, qa1, qa2, qa3] => (match vc with
  | [qb0, qb1] => (match qa0 with
  | AV.sl Tk.imm [Kd.sl [Kd.int IntKind.u16, Kd.int IntKind.u32]] t0 => (match qa1 with
  | AV.sl Tk.imm [Kd.sl [Kd.int IntKind.u16, Kd.int IntKind.u32], Kd.int IntKind.i64] t3 => (match qa2 with
  | AV.rf (1) [Kd.sl [Kd.int IntKind.u16, Kd.int IntKind.u32]] => (match qa3 with
  | AV.int IntKind.i64 t5 => (match qb0 with
  | Blk.dead => (match qb1 with
  | Blk.row [Kd.sl [Kd.int IntKind.u16, Kd.int IntKind.u32]] b1 => (some (t0, (t3, t5, b1)))
  | _ => none)
  | _ => none)
  | _ => none)
  | _ => none)
  | _ => none)
  | _ => none)
  | _ => none)
  | _ => none
theorem de5_6_ok (vt : List AV) (vc : List Blk) (a : pl5_6 × sl5_6) (h : de5_6 vt vc = some a) : vt = vt5_6 a ∧ vc = vc5_6 a := by
  unfold de5_6 at h
  split at h
  rotate_left
  · cases h
  split at h
  rotate_left
  · cases h
  split at h
  rotate_left
  · cases h
  split at h
  rotate_left
  · cases h
  split at h
  rotate_left
  · cases h
  split at h
  rotate_left
  · cases h
  split at h
  rotate_left
  · cases h
  split at h
  rotate_left
  · cases h
  injection h with h
  subst h
  exact ⟨rfl, rfl⟩
noncomputable def g5_6 (p : pl5_6) (s : sl5_6) : Bool := go5_6 p s.1 s.2.1 s.2.2
noncomputable def n5_6 (p : pl5_6) (s : sl5_6) : sl5_6 := (nx5_6_1 p s.1 s.2.1 s.2.2, nx5_6_2 p s.1 s.2.1 s.2.2, nx5_6_3 p s.1 s.2.1 s.2.2)
noncomputable def y5_6 (p : pl5_6) (s : sl5_6) : List (Bool × Out) := [(xc5_6_0 p s.1 s.2.1 s.2.2, (Ex.ret, [AV.bool (xv5_6_0_0 p s.1 s.2.1 s.2.2)], []))]
noncomputable def z5_6 (p : pl5_6) (s : sl5_6) : Bool := xc5_6_1 p s.1 s.2.1 s.2.2
noncomputable def d5_6 (p : pl5_6) (s : sl5_6) : Out := (Ex.exit (nat_lit 0), [AV.junk], [])
noncomputable def ls5_6 : St → Option (Bool × List (Bool × Ex × St) × Ex × St) := lspOf [0, 3, 4, 5] [0, 1] [2] [] Try.f5.ntmps (0 + tab.nid 5) de5_6 (spI g5_6 n5_6 y5_6 z5_6 d5_6)
theorem lo5_6 (rest : Lsp) : LoopOK1 (cfg Try.prog tab 100000 (gk k11 30) (selL 6 ls5_6 rest) 5 0 Try.f5.ntmps) (loopAt Try.f5 6) := LoopOK1.iter (i := 6) (by kernel_rfl) [0, 3, 4, 5] [0, 1] [2] [] vt5_6 vc5_6 de5_6 g5_6 n5_6 y5_6 z5_6 d5_6 (fun _ => rfl) de5_6_ok (fun p s => rd5_6 (selL 6 ls5_6 rest) p (s.1) (s.2.1) (s.2.2)) (fun _ _ => rfl)
noncomputable def lsp5 : Lsp := (selL 6 ls5_6 noLsp)
theorem loops5 : ∀ c, Try.f5.body = some c → LoopsOK (cfg Try.prog tab 100000 (gk k11 30) lsp5 5 0 Try.f5.ntmps) c := loops_of [6] (by kernel_rfl) (by kernel_rfl) (fun i hi => by
  simp only [List.mem_cons, List.not_mem_nil, or_false] at hi
  subst hi
  · exact lo5_6 noLsp)
noncomputable def rev5_0 (es : List (List AV)) : sl5_6 := finL (g5_6 es) (n5_6 es) ([], (0 : Int), [])
noncomputable def rev5_1 (es : List (List AV)) : List (List AV) := (rev5_0 es).fst
noncomputable def rev5_2 (es : List (List AV)) : Int := (rev5_0 es).snd.fst
noncomputable def rev5_3 (es : List (List AV)) : List (List AV) := (rev5_0 es).snd.snd
noncomputable def vev5_0 (es : List (List AV)) : Bool := bif decide ((↑es.length : Int) > (60 : Int)) then true else bif xc5_6_0 es (rev5_1 es) (rev5_2 es) (rev5_3 es) then xv5_6_0_0 es (rev5_1 es) (rev5_2 es) (rev5_3 es) else true
noncomputable def vev5_1 (es : List (List AV)) : Bool := bif decide ((↑es.length : Int) > (60 : Int)) then true else bif (spI g5_6 n5_6 y5_6 z5_6 d5_6 (es, [], (0 : Int), [])).fst then true else false
theorem ev5 (es : List (List AV)) : evFun (cfg Try.prog tab 100000 (gk k11 30) lsp5 5 ([] : List Blk).length Try.f5.ntmps) Try.f5 [.sl .imm [.sl [.int .u16, .int .u32]] es] [] = bif vev5_1 es then some (AV.bool (vev5_0 es), []) else none := by
  have h : evFun (cfg Try.prog tab 100000 (gk k11 30) lsp5 5 ([] : List Blk).length Try.f5.ntmps) Try.f5 [.sl .imm [.sl [.int .u16, .int .u32]] es] [] = bif decide ((↑es.length : Int) > (60 : Int)) then some (AV.bool true, []) else bif (spI g5_6 n5_6 y5_6 z5_6 d5_6 (es, [], (0 : Int), [])).fst then bif xc5_6_0 es (rev5_1 es) (rev5_2 es) (rev5_3 es) then some (AV.bool (xv5_6_0_0 es (rev5_1 es) (rev5_2 es) (rev5_3 es)), []) else some (AV.bool true, []) else none := by kernel_rfl
  rw [h]
  clear h
  unfold vev5_0 vev5_1
  generalize ((spI g5_6 n5_6 y5_6 z5_6 d5_6 (es, [], (0 : Int), [])).fst) = c0
  generalize (decide ((↑es.length : Int) > (60 : Int))) = c1
  generalize (xc5_6_0 es (rev5_1 es) (rev5_2 es) (rev5_3 es)) = c2
  cases c1
  · skip
    cases c0
    · skip
      rfl
    · skip
      cases c2
      · skip
        rfl
      · skip
        rfl
  · skip
    rfl
-- spec vev5_1 es ;; (AV.bool (vev5_0 es), [])
-- law 5: loops loops5 gam k11
end Go.Proofs.Gv
