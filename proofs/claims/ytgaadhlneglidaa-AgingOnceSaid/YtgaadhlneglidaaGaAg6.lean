import Derived.Test.YtgaadhlneglidaaGt
import Derived.KernelRfl
import Derived.Test.YtgaadhlneglidaaGwF
import Derived.Test.YtgaadhlneglidaaGaAg4
namespace Go.Proofs.Gv
open Go.Proofs
set_option linter.unusedVariables false
noncomputable def rn6_5_0 (t1 : Int) (t2 : List (List AV)) (t8 : Int) (b3_0 : Int) (b3_1 : List (List AV)) : Int := intOf ((b3_1.getD t8.toNat []).getD ((0 : Nat) + (1 : Nat) + (1 : Nat)) AV.junk)
noncomputable def rn6_5_1 (t1 : Int) (t2 : List (List AV)) (t8 : Int) (b3_0 : Int) (b3_1 : List (List AV)) : Int := intOf ((b3_1.getD t8.toNat []).getD (0 : Nat) AV.junk)
noncomputable def go6_5 (t1 : Int) (t2 : List (List AV)) (t8 : Int) (b3_0 : Int) (b3_1 : List (List AV)) : Bool := bif decide (t8 < (↑b3_1.length : Int)) then bif bif decide ((0 : Int) ≤ t8) && decide (t8 < (↑b3_1.length : Int)) then bif decide (rn6_5_0 t1 t2 t8 b3_0 b3_1 > (9 : Int)) then true else decide ((0 : Int) ≤ t8) && decide (t8 < (↑b3_1.length : Int)) else false then bif bif decide ((0 : Int) ≤ t8) && decide (t8 < (↑b3_1.length : Int)) then bif decide (rn6_5_0 t1 t2 t8 b3_0 b3_1 > (9 : Int)) then true else bif decide ((0 : Int) ≤ t8) && decide (t8 < (↑b3_1.length : Int)) then bif decide (rn6_5_1 t1 t2 t8 b3_0 b3_1 > (900 : Int)) then true else decide (b3_0 > (20 : Int)) else false else false then false else true else false else false
noncomputable def nx6_5_2 (t1 : Int) (t2 : List (List AV)) (t8 : Int) (b3_0 : Int) (b3_1 : List (List AV)) : Int := IntKind.i64.wrap (t8 + (1 : Int))
noncomputable def xc6_5_0 (t1 : Int) (t2 : List (List AV)) (t8 : Int) (b3_0 : Int) (b3_1 : List (List AV)) : Bool := bif decide (t8 < (↑b3_1.length : Int)) then bif bif decide ((0 : Int) ≤ t8) && decide (t8 < (↑b3_1.length : Int)) then bif decide (rn6_5_0 t1 t2 t8 b3_0 b3_1 > (9 : Int)) then true else decide ((0 : Int) ≤ t8) && decide (t8 < (↑b3_1.length : Int)) else false then bif decide ((0 : Int) ≤ t8) && decide (t8 < (↑b3_1.length : Int)) then bif decide (rn6_5_0 t1 t2 t8 b3_0 b3_1 > (9 : Int)) then true else bif decide ((0 : Int) ≤ t8) && decide (t8 < (↑b3_1.length : Int)) then bif decide (rn6_5_1 t1 t2 t8 b3_0 b3_1 > (900 : Int)) then true else decide (b3_0 > (20 : Int)) else false else false else false else false
noncomputable def xc6_5_1 (t1 : Int) (t2 : List (List AV)) (t8 : Int) (b3_0 : Int) (b3_1 : List (List AV)) : Bool := bif decide (t8 < (↑b3_1.length : Int)) then false else true
theorem rd6_5 (rest : Lsp) (t1 : Int) (t2 : List (List AV)) (t8 : Int) (b3_0 : Int) (b3_1 : List (List AV)) : roundV (cfg Try.prog tab 100000 (gk k17 30) rest 6 0 Try.f6.ntmps) (loopAt Try.f6 5) [1, 2, 7, 8] [3] [1, 2, 6, 7] [3] [AV.int IntKind.u8 t1, AV.sl Tk.imm [Kd.int IntKind.u8] t2, AV.hp (nat_lit 3) (nat_lit 0), AV.int IntKind.i64 t8] [Blk.var [AV.int IntKind.i64 b3_0, AV.sl Tk.imm [Kd.int IntKind.i64, Kd.int IntKind.i64, Kd.int IntKind.i64, Kd.int IntKind.i64] b3_1]] = bif go6_5 t1 t2 t8 b3_0 b3_1 then some (Ex.norm, [AV.int IntKind.u8 t1, AV.sl Tk.imm [Kd.int IntKind.u8] t2, AV.hp (nat_lit 3) (nat_lit 0), AV.int IntKind.i64 (nx6_5_2 t1 t2 t8 b3_0 b3_1)], [Blk.var [AV.int IntKind.i64 b3_0, AV.sl Tk.imm [Kd.int IntKind.i64, Kd.int IntKind.i64, Kd.int IntKind.i64, Kd.int IntKind.i64] b3_1]]) else bif xc6_5_0 t1 t2 t8 b3_0 b3_1 then some (Ex.ret, [AV.int IntKind.u8 t1, AV.sl Tk.imm [Kd.int IntKind.u8] t2, AV.bool true, AV.hp (nat_lit 3) (nat_lit 0)], [Blk.var [AV.int IntKind.i64 b3_0, AV.sl Tk.imm [Kd.int IntKind.i64, Kd.int IntKind.i64, Kd.int IntKind.i64, Kd.int IntKind.i64] b3_1]]) else bif xc6_5_1 t1 t2 t8 b3_0 b3_1 then some (Ex.exit (nat_lit 0), [AV.int IntKind.u8 t1, AV.sl Tk.imm [Kd.int IntKind.u8] t2, AV.junk, AV.hp (nat_lit 3) (nat_lit 0)], [Blk.var [AV.int IntKind.i64 b3_0, AV.sl Tk.imm [Kd.int IntKind.i64, Kd.int IntKind.i64, Kd.int IntKind.i64, Kd.int IntKind.i64] b3_1]]) else none := by
  have h : roundV (cfg Try.prog tab 100000 (gk k17 30) rest 6 0 Try.f6.ntmps) (loopAt Try.f6 5) [1, 2, 7, 8] [3] [1, 2, 6, 7] [3] [AV.int IntKind.u8 t1, AV.sl Tk.imm [Kd.int IntKind.u8] t2, AV.hp (nat_lit 3) (nat_lit 0), AV.int IntKind.i64 t8] [Blk.var [AV.int IntKind.i64 b3_0, AV.sl Tk.imm [Kd.int IntKind.i64, Kd.int IntKind.i64, Kd.int IntKind.i64, Kd.int IntKind.i64] b3_1]] = bif decide (t8 < (↑b3_1.length : Int)) then bif bif decide ((0 : Int) ≤ t8) && decide (t8 < (↑b3_1.length : Int)) then bif decide (rn6_5_0 t1 t2 t8 b3_0 b3_1 > (9 : Int)) then true else bif decide ((0 : Int) ≤ t8) && decide (t8 < (↑b3_1.length : Int)) then bif bif false then true else decide (rn6_5_1 t1 t2 t8 b3_0 b3_1 > (900 : Int)) then true else true else false else false then bif bif decide ((0 : Int) ≤ t8) && decide (t8 < (↑b3_1.length : Int)) then bif decide (rn6_5_0 t1 t2 t8 b3_0 b3_1 > (9 : Int)) then true else bif decide ((0 : Int) ≤ t8) && decide (t8 < (↑b3_1.length : Int)) then bif bif false then true else decide (rn6_5_1 t1 t2 t8 b3_0 b3_1 > (900 : Int)) then true else bif false then true else decide (b3_0 > (20 : Int)) else false else false then some (Ex.ret, [AV.int IntKind.u8 t1, AV.sl Tk.imm [Kd.int IntKind.u8] t2, AV.bool true, AV.hp (nat_lit 3) (nat_lit 0)], [Blk.var [AV.int IntKind.i64 b3_0, AV.sl Tk.imm [Kd.int IntKind.i64, Kd.int IntKind.i64, Kd.int IntKind.i64, Kd.int IntKind.i64] b3_1]]) else some (Ex.norm, [AV.int IntKind.u8 t1, AV.sl Tk.imm [Kd.int IntKind.u8] t2, AV.hp (nat_lit 3) (nat_lit 0), AV.int IntKind.i64 (IntKind.i64.wrap (t8 + (1 : Int)))], [Blk.var [AV.int IntKind.i64 b3_0, AV.sl Tk.imm [Kd.int IntKind.i64, Kd.int IntKind.i64, Kd.int IntKind.i64, Kd.int IntKind.i64] b3_1]]) else none else some (Ex.exit (nat_lit 0), [AV.int IntKind.u8 t1, AV.sl Tk.imm [Kd.int IntKind.u8] t2, AV.junk, AV.hp (nat_lit 3) (nat_lit 0)], [Blk.var [AV.int IntKind.i64 b3_0, AV.sl Tk.imm [Kd.int IntKind.i64, Kd.int IntKind.i64, Kd.int IntKind.i64, Kd.int IntKind.i64] b3_1]]) := by kernel_rfl
  rw [h]
  clear h
  unfold go6_5 nx6_5_2 xc6_5_0 xc6_5_1
  generalize (decide ((0 : Int) ≤ t8) && decide (t8 < (↑b3_1.length : Int))) = c0
  generalize (decide (rn6_5_0 t1 t2 t8 b3_0 b3_1 > (9 : Int))) = c1
  generalize (decide (rn6_5_1 t1 t2 t8 b3_0 b3_1 > (900 : Int))) = c2
  generalize (decide (t8 < (↑b3_1.length : Int))) = c3
  generalize (decide (b3_0 > (20 : Int))) = c4
  cases c3
  · skip
    rfl
  · skip
    cases c0
    · skip
      rfl
    · skip
      cases c1
      · skip
        cases c2
        · skip
          cases c4
          · skip
            rfl
          · skip
            rfl
        · skip
          rfl
      · skip
        rfl
abbrev pl6_5 : Type := Int × (List (List AV)) × Int × (List (List AV))
abbrev sl6_5 : Type := Int
noncomputable def vt6_5 (a : pl6_5 × sl6_5) : List AV := [AV.int IntKind.u8 a.1.1, AV.sl Tk.imm [Kd.int IntKind.u8] a.1.2.1, AV.hp (nat_lit 3) (nat_lit 0), AV.int IntKind.i64 a.2]
noncomputable def vc6_5 (a : pl6_5 × sl6_5) : List Blk := [Blk.var [AV.int IntKind.i64 a.1.2.2.1, AV.sl Tk.imm [Kd.int IntKind.i64, Kd.int IntKind.i64, Kd.int IntKind.i64, Kd.int IntKind.i64] a.1.2.2.2]]
noncomputable def de6_5 (vt : List AV) (vc : List Blk) : Option (pl6_5 × sl6_5) :=
  match vt with
  | [qa0, qa1, qa2, qa3] => (match vc with
  | [qb0] => (match qa0 with
  | AV.int IntKind.u8 t1 => (match qa1 with
  | AV.sl Tk.imm [Kd.int IntKind.u8] t2 => (match qa2 with
  | AV.hp (3) (0) => (match qa3 with
  | AV.int IntKind.i64 t8 => (match qb0 with
  | Blk.var [AV.int IntKind.i64 b3_0, AV.sl Tk.imm [Kd.int IntKind.i64, Kd.int IntKind.i64, Kd.int IntKind.i64, Kd.int IntKind.i64] b3_1] => (some ((t1, t2, b3_0, b3_1), t8))
  | _ => none)
  | _ => none)
  | _ => none)
  | _ => none)
  | _ => none)
  | _ => none)
  | _ => none
theorem de6_5_ok (vt : List AV) (vc : List Blk) (a : pl6_5 × sl6_5) (h : de6_5 vt vc = some a) : vt = vt6_5 a ∧ vc = vc6_5 a := by
  unfold de6_5 at h
  split at h
  rotate_left
  · cases h
  split at h
  rotate_left
  · cases h
  split at h
  rotate_left
  · cases h
  split at h
  rotate_left
  · cases h
  split at h
  rotate_left
  · cases h
  split at h
  rotate_left
  · cases h
  split at h
  rotate_left
  · cases h
  injection h with h
  subst h
  exact ⟨rfl, rfl⟩
noncomputable def g6_5 (p : pl6_5) (s : sl6_5) : Bool := go6_5 p.1 p.2.1 s p.2.2.1 p.2.2.2
noncomputable def n6_5 (p : pl6_5) (s : sl6_5) : sl6_5 := nx6_5_2 p.1 p.2.1 s p.2.2.1 p.2.2.2
noncomputable def y6_5 (p : pl6_5) (s : sl6_5) : List (Bool × Out) := [(xc6_5_0 p.1 p.2.1 s p.2.2.1 p.2.2.2, (Ex.ret, [AV.int IntKind.u8 p.1, AV.sl Tk.imm [Kd.int IntKind.u8] p.2.1, AV.bool true, AV.hp (nat_lit 3) (nat_lit 0)], [Blk.var [AV.int IntKind.i64 p.2.2.1, AV.sl Tk.imm [Kd.int IntKind.i64, Kd.int IntKind.i64, Kd.int IntKind.i64, Kd.int IntKind.i64] p.2.2.2]]))]
noncomputable def z6_5 (p : pl6_5) (s : sl6_5) : Bool := xc6_5_1 p.1 p.2.1 s p.2.2.1 p.2.2.2
noncomputable def d6_5 (p : pl6_5) (s : sl6_5) : Out := (Ex.exit (nat_lit 0), [AV.int IntKind.u8 p.1, AV.sl Tk.imm [Kd.int IntKind.u8] p.2.1, AV.junk, AV.hp (nat_lit 3) (nat_lit 0)], [Blk.var [AV.int IntKind.i64 p.2.2.1, AV.sl Tk.imm [Kd.int IntKind.i64, Kd.int IntKind.i64, Kd.int IntKind.i64, Kd.int IntKind.i64] p.2.2.2]])
noncomputable def ls6_5 : St → Option (Bool × List (Bool × Ex × St) × Ex × St) := lspOf [1, 2, 7, 8] [3] [1, 2, 6, 7] [3] Try.f6.ntmps (0 + tab.nid 6) de6_5 (spI g6_5 n6_5 y6_5 z6_5 d6_5)
theorem lo6_5 (rest : Lsp) : LoopOK1 (cfg Try.prog tab 100000 (gk k17 30) (selL 5 ls6_5 rest) 6 0 Try.f6.ntmps) (loopAt Try.f6 5) := LoopOK1.iter (i := 5) (by kernel_rfl) [1, 2, 7, 8] [3] [1, 2, 6, 7] [3] vt6_5 vc6_5 de6_5 g6_5 n6_5 y6_5 z6_5 d6_5 (fun _ => rfl) de6_5_ok (fun p s => rd6_5 (selL 5 ls6_5 rest) (p.1) (p.2.1) s (p.2.2.1) (p.2.2.2)) (fun _ _ => rfl)
noncomputable def rn6_14_0 (t2 : List (List AV)) (t10 : Int) (t11 : Int) (b3_0 : Int) (b3_1 : List (List AV)) : Int := IntKind.i64.wrap ((1001 : Int) + t11)
noncomputable def rn6_14_1 (t2 : List (List AV)) (t10 : Int) (t11 : Int) (b3_0 : Int) (b3_1 : List (List AV)) : Int := intOf ((t2.getD t11.toNat []).getD (0 : Nat) AV.junk)
noncomputable def rn6_14_2 (t2 : List (List AV)) (t10 : Int) (t11 : Int) (b3_0 : Int) (b3_1 : List (List AV)) : Int := IntKind.i64.wrap ((rn6_14_1 t2 t10 t11 b3_0 b3_1).tmod (8 : Int))
noncomputable def rn6_14_3 (t2 : List (List AV)) (t10 : Int) (t11 : Int) (b3_0 : Int) (b3_1 : List (List AV)) : Int := IntKind.i64.wrap ((1 : Int) + IntKind.i64.wrap (IntKind.u8.wrap ((rn6_14_1 t2 t10 t11 b3_0 b3_1).tdiv (8 : Int))))
noncomputable def rn6_14_4 (t2 : List (List AV)) (t10 : Int) (t11 : Int) (b3_0 : Int) (b3_1 : List (List AV)) : List (List AV) := vev10_0 b3_0 b3_1 (rn6_14_0 t2 t10 t11 b3_0 b3_1) (rn6_14_2 t2 t10 t11 b3_0 b3_1) (rn6_14_3 t2 t10 t11 b3_0 b3_1)
noncomputable def rn6_14_5 (t2 : List (List AV)) (t10 : Int) (t11 : Int) (b3_0 : Int) (b3_1 : List (List AV)) : Int := (↑(rn6_14_4 t2 t10 t11 b3_0 b3_1).length : Int)
noncomputable def go6_14 (t2 : List (List AV)) (t10 : Int) (t11 : Int) (b3_0 : Int) (b3_1 : List (List AV)) : Bool := bif decide (t11 < t10) then bif bif decide (t11 < (↑t2.length : Int)) then decide ((↑b3_1.length : Int) < (16 : Int)) else false then bif decide ((0 : Int) ≤ t11) && decide (t11 < (↑t2.length : Int)) then bif vev10_2 b3_0 b3_1 (rn6_14_0 t2 t10 t11 b3_0 b3_1) (rn6_14_2 t2 t10 t11 b3_0 b3_1) (rn6_14_3 t2 t10 t11 b3_0 b3_1) then bif vev10_1 b3_0 b3_1 (rn6_14_0 t2 t10 t11 b3_0 b3_1) (rn6_14_2 t2 t10 t11 b3_0 b3_1) (rn6_14_3 t2 t10 t11 b3_0 b3_1) != (0 : Int) then false else bif vev14_6 b3_0 (rn6_14_4 t2 t10 t11 b3_0 b3_1) (1 : Int) then bif bif vev14_5 b3_0 (rn6_14_4 t2 t10 t11 b3_0 b3_1) (1 : Int) != (1 : Int) then decide (rn6_14_5 t2 t10 t11 b3_0 b3_1 > (0 : Int)) else false then false else true else false else false else false else bif vev14_6 b3_0 b3_1 (1 : Int) then bif bif vev14_5 b3_0 b3_1 (1 : Int) != (1 : Int) then decide ((↑b3_1.length : Int) > (0 : Int)) else false then false else true else false else false
noncomputable def nx6_14_2 (t2 : List (List AV)) (t10 : Int) (t11 : Int) (b3_0 : Int) (b3_1 : List (List AV)) : Int := IntKind.i64.wrap (t11 + (1 : Int))
noncomputable def nx6_14_4 (t2 : List (List AV)) (t10 : Int) (t11 : Int) (b3_0 : Int) (b3_1 : List (List AV)) : List (List AV) := bif bif decide (t11 < (↑t2.length : Int)) then decide ((↑b3_1.length : Int) < (16 : Int)) else false then vev14_0 b3_0 (rn6_14_4 t2 t10 t11 b3_0 b3_1) (1 : Int) else vev14_0 b3_0 b3_1 (1 : Int)
noncomputable def xc6_14_0 (t2 : List (List AV)) (t10 : Int) (t11 : Int) (b3_0 : Int) (b3_1 : List (List AV)) : Bool := bif decide (t11 < t10) then bif bif decide (t11 < (↑t2.length : Int)) then decide ((↑b3_1.length : Int) < (16 : Int)) else false then bif decide ((0 : Int) ≤ t11) && decide (t11 < (↑t2.length : Int)) then bif vev10_2 b3_0 b3_1 (rn6_14_0 t2 t10 t11 b3_0 b3_1) (rn6_14_2 t2 t10 t11 b3_0 b3_1) (rn6_14_3 t2 t10 t11 b3_0 b3_1) then bif vev10_1 b3_0 b3_1 (rn6_14_0 t2 t10 t11 b3_0 b3_1) (rn6_14_2 t2 t10 t11 b3_0 b3_1) (rn6_14_3 t2 t10 t11 b3_0 b3_1) != (0 : Int) then true else bif vev14_6 b3_0 (rn6_14_4 t2 t10 t11 b3_0 b3_1) (1 : Int) then bif vev14_5 b3_0 (rn6_14_4 t2 t10 t11 b3_0 b3_1) (1 : Int) != (1 : Int) then decide (rn6_14_5 t2 t10 t11 b3_0 b3_1 > (0 : Int)) else false else false else false else false else bif vev14_6 b3_0 b3_1 (1 : Int) then bif vev14_5 b3_0 b3_1 (1 : Int) != (1 : Int) then decide ((↑b3_1.length : Int) > (0 : Int)) else false else false else false
noncomputable def xv6_14_0_0 (t2 : List (List AV)) (t10 : Int) (t11 : Int) (b3_0 : Int) (b3_1 : List (List AV)) : List (List AV) := bif bif decide (t11 < (↑t2.length : Int)) then decide ((↑b3_1.length : Int) < (16 : Int)) else false then rn6_14_4 t2 t10 t11 b3_0 b3_1 else b3_1
noncomputable def xc6_14_1 (t2 : List (List AV)) (t10 : Int) (t11 : Int) (b3_0 : Int) (b3_1 : List (List AV)) : Bool := bif decide (t11 < t10) then false else true
theorem rd6_14 (rest : Lsp) (t2 : List (List AV)) (t10 : Int) (t11 : Int) (b3_0 : Int) (b3_1 : List (List AV)) : roundV (cfg Try.prog tab 100000 (gk k17 30) (selL 5 ls6_5 rest) 6 0 Try.f6.ntmps) (loopAt Try.f6 14) [2, 7, 10, 11] [3] [6, 7] [3] [AV.sl Tk.imm [Kd.int IntKind.u8] t2, AV.hp (nat_lit 3) (nat_lit 0), AV.int IntKind.i64 t10, AV.int IntKind.i64 t11] [Blk.var [AV.int IntKind.i64 b3_0, AV.sl Tk.imm [Kd.int IntKind.i64, Kd.int IntKind.i64, Kd.int IntKind.i64, Kd.int IntKind.i64] b3_1]] = bif go6_14 t2 t10 t11 b3_0 b3_1 then some (Ex.norm, [AV.sl Tk.imm [Kd.int IntKind.u8] t2, AV.hp (nat_lit 3) (nat_lit 0), AV.int IntKind.i64 t10, AV.int IntKind.i64 (nx6_14_2 t2 t10 t11 b3_0 b3_1)], [Blk.var [AV.int IntKind.i64 b3_0, AV.sl Tk.imm [Kd.int IntKind.i64, Kd.int IntKind.i64, Kd.int IntKind.i64, Kd.int IntKind.i64] (nx6_14_4 t2 t10 t11 b3_0 b3_1)]]) else bif xc6_14_0 t2 t10 t11 b3_0 b3_1 then some (Ex.ret, [AV.bool false, AV.hp (nat_lit 3) (nat_lit 0)], [Blk.var [AV.int IntKind.i64 b3_0, AV.sl Tk.imm [Kd.int IntKind.i64, Kd.int IntKind.i64, Kd.int IntKind.i64, Kd.int IntKind.i64] (xv6_14_0_0 t2 t10 t11 b3_0 b3_1)]]) else bif xc6_14_1 t2 t10 t11 b3_0 b3_1 then some (Ex.exit (nat_lit 2), [AV.junk, AV.hp (nat_lit 3) (nat_lit 0)], [Blk.var [AV.int IntKind.i64 b3_0, AV.sl Tk.imm [Kd.int IntKind.i64, Kd.int IntKind.i64, Kd.int IntKind.i64, Kd.int IntKind.i64] b3_1]]) else none := by
  have h : roundV (cfg Try.prog tab 100000 (gk k17 30) (selL 5 ls6_5 rest) 6 0 Try.f6.ntmps) (loopAt Try.f6 14) [2, 7, 10, 11] [3] [6, 7] [3] [AV.sl Tk.imm [Kd.int IntKind.u8] t2, AV.hp (nat_lit 3) (nat_lit 0), AV.int IntKind.i64 t10, AV.int IntKind.i64 t11] [Blk.var [AV.int IntKind.i64 b3_0, AV.sl Tk.imm [Kd.int IntKind.i64, Kd.int IntKind.i64, Kd.int IntKind.i64, Kd.int IntKind.i64] b3_1]] = bif decide (t11 < t10) then bif bif decide (t11 < (↑t2.length : Int)) then true else true then bif bif decide (t11 < (↑t2.length : Int)) then bif true then decide ((↑b3_1.length : Int) < (16 : Int)) else false else false then bif decide ((0 : Int) ≤ t11) && decide (t11 < (↑t2.length : Int)) then bif decide ((0 : Int) ≤ t11) && decide (t11 < (↑t2.length : Int)) then bif vev10_2 b3_0 b3_1 (rn6_14_0 t2 t10 t11 b3_0 b3_1) (rn6_14_2 t2 t10 t11 b3_0 b3_1) (rn6_14_3 t2 t10 t11 b3_0 b3_1) then bif vev10_1 b3_0 b3_1 (rn6_14_0 t2 t10 t11 b3_0 b3_1) (rn6_14_2 t2 t10 t11 b3_0 b3_1) (rn6_14_3 t2 t10 t11 b3_0 b3_1) != (0 : Int) then some (Ex.ret, [AV.bool false, AV.hp (nat_lit 3) (nat_lit 0)], [Blk.var [AV.int IntKind.i64 b3_0, AV.sl Tk.imm [Kd.int IntKind.i64, Kd.int IntKind.i64, Kd.int IntKind.i64, Kd.int IntKind.i64] (rn6_14_4 t2 t10 t11 b3_0 b3_1)]]) else bif vev14_6 b3_0 (rn6_14_4 t2 t10 t11 b3_0 b3_1) (1 : Int) then bif bif vev14_5 b3_0 (rn6_14_4 t2 t10 t11 b3_0 b3_1) (1 : Int) != (1 : Int) then true else true then bif bif vev14_5 b3_0 (rn6_14_4 t2 t10 t11 b3_0 b3_1) (1 : Int) != (1 : Int) then bif true then decide (rn6_14_5 t2 t10 t11 b3_0 b3_1 > (0 : Int)) else false else false then some (Ex.ret, [AV.bool false, AV.hp (nat_lit 3) (nat_lit 0)], [Blk.var [AV.int IntKind.i64 b3_0, AV.sl Tk.imm [Kd.int IntKind.i64, Kd.int IntKind.i64, Kd.int IntKind.i64, Kd.int IntKind.i64] (rn6_14_4 t2 t10 t11 b3_0 b3_1)]]) else some (Ex.norm, [AV.sl Tk.imm [Kd.int IntKind.u8] t2, AV.hp (nat_lit 3) (nat_lit 0), AV.int IntKind.i64 t10, AV.int IntKind.i64 (IntKind.i64.wrap (t11 + (1 : Int)))], [Blk.var [AV.int IntKind.i64 b3_0, AV.sl Tk.imm [Kd.int IntKind.i64, Kd.int IntKind.i64, Kd.int IntKind.i64, Kd.int IntKind.i64] (vev14_0 b3_0 (rn6_14_4 t2 t10 t11 b3_0 b3_1) (1 : Int))]]) else none else none else none else none else none else bif vev14_6 b3_0 b3_1 (1 : Int) then bif bif vev14_5 b3_0 b3_1 (1 : Int) != (1 : Int) then true else true then bif bif vev14_5 b3_0 b3_1 (1 : Int) != (1 : Int) then bif true then decide ((↑b3_1.length : Int) > (0 : Int)) else false else false then some (Ex.ret, [AV.bool false, AV.hp (nat_lit 3) (nat_lit 0)], [Blk.var [AV.int IntKind.i64 b3_0, AV.sl Tk.imm [Kd.int IntKind.i64, Kd.int IntKind.i64, Kd.int IntKind.i64, Kd.int IntKind.i64] b3_1]]) else some (Ex.norm, [AV.sl Tk.imm [Kd.int IntKind.u8] t2, AV.hp (nat_lit 3) (nat_lit 0), AV.int IntKind.i64 t10, AV.int IntKind.i64 (IntKind.i64.wrap (t11 + (1 : Int)))], [Blk.var [AV.int IntKind.i64 b3_0, AV.sl Tk.imm [Kd.int IntKind.i64, Kd.int IntKind.i64, Kd.int IntKind.i64, Kd.int IntKind.i64] (vev14_0 b3_0 b3_1 (1 : Int))]]) else none else none else none else some (Ex.exit (nat_lit 2), [AV.junk, AV.hp (nat_lit 3) (nat_lit 0)], [Blk.var [AV.int IntKind.i64 b3_0, AV.sl Tk.imm [Kd.int IntKind.i64, Kd.int IntKind.i64, Kd.int IntKind.i64, Kd.int IntKind.i64] b3_1]]) := by kernel_rfl
  rw [h]
  clear h
  unfold go6_14 nx6_14_2 nx6_14_4 xc6_14_0 xv6_14_0_0 xc6_14_1
  generalize (decide ((0 : Int) ≤ t11) && decide (t11 < (↑t2.length : Int))) = c0
  generalize (vev10_1 b3_0 b3_1 (rn6_14_0 t2 t10 t11 b3_0 b3_1) (rn6_14_2 t2 t10 t11 b3_0 b3_1) (rn6_14_3 t2 t10 t11 b3_0 b3_1) != (0 : Int)) = c1
  generalize (decide ((↑b3_1.length : Int) > (0 : Int))) = c2
  generalize (decide ((↑b3_1.length : Int) < (16 : Int))) = c3
  generalize (decide (rn6_14_5 t2 t10 t11 b3_0 b3_1 > (0 : Int))) = c4
  generalize (vev14_5 b3_0 (rn6_14_4 t2 t10 t11 b3_0 b3_1) (1 : Int) != (1 : Int)) = c5
  generalize (decide (t11 < (↑t2.length : Int))) = c6
  generalize (vev10_2 b3_0 b3_1 (rn6_14_0 t2 t10 t11 b3_0 b3_1) (rn6_14_2 t2 t10 t11 b3_0 b3_1) (rn6_14_3 t2 t10 t11 b3_0 b3_1)) = c7
  generalize (vev14_5 b3_0 b3_1 (1 : Int) != (1 : Int)) = c8
  generalize (vev14_6 b3_0 (rn6_14_4 t2 t10 t11 b3_0 b3_1) (1 : Int)) = c9
  generalize (decide (t11 < t10)) = c10
  generalize (vev14_6 b3_0 b3_1 (1 : Int)) = c11
  cases c10
  · skip
    rfl
  · skip
    cases c6
    · skip
      cases c11
      · skip
        rfl
      · skip
        cases c8
        · skip
          rfl
        · skip
          cases c2
          · skip
            rfl
          · skip
            rfl
    · skip
      cases c3
      · skip
        cases c11
        · skip
          rfl
        · skip
          cases c8
          · skip
            rfl
          · skip
            cases c2
            · skip
              rfl
            · skip
              rfl
      · skip
        cases c0
        · skip
          rfl
        · skip
          cases c7
          · skip
            rfl
          · skip
            cases c1
            · skip
              cases c9
              · skip
                rfl
              · skip
                cases c5
                · skip
                  rfl
                · skip
                  cases c4
                  · skip
                    rfl
                  · skip
                    rfl
            · skip
              rfl
abbrev pl6_14 : Type := (List (List AV)) × Int × Int
abbrev sl6_14 : Type := Int × (List (List AV))
noncomputable def vt6_14 (a : pl6_14 × sl6_14) : List AV := [AV.sl Tk.imm [Kd.int IntKind.u8] a.1.1, AV.hp (nat_lit 3) (nat_lit 0), AV.int IntKind.i64 a.1.2.1, AV.int IntKind.i64 a.2.1]
noncomputable def vc6_14 (a : pl6_14 × sl6_14) : List Blk := [Blk.var [AV.int IntKind.i64 a.1.2.2, AV.sl Tk.imm [Kd.int IntKind.i64, Kd.int IntKind.i64, Kd.int IntKind.i64, Kd.int IntKind.i64] a.2.2]]
noncomputable def de6_14 (vt : List AV) (vc : List Blk) : Option (pl6_14 × sl6_14) :=
  match vt with
  | [qa0, qa1, qa2, qa3] => (match vc with
  | [qb0] => (match qa0 with
  | AV.sl Tk.imm [Kd.int IntKind.u8] t2 => (match qa1 with
  | AV.hp (3) (0) => (match qa2 with
  | AV.int IntKind.i64 t10 => (match qa3 with
  | AV.int IntKind.i64 t11 => (match qb0 with
  | Blk.var [AV.int IntKind.i64 b3_0, AV.sl Tk.imm [Kd.int IntKind.i64, Kd.int IntKind.i64, Kd.int IntKind.i64, Kd.int IntKind.i64] b3_1] => (some ((t2, t10, b3_0), (t11, b3_1)))
  | _ => none)
  | _ => none)
  | _ => none)
  | _ => none)
  | _ => none)
  | _ => none)
  | _ => none
theorem de6_14_ok (vt : List AV) (vc : List Blk) (a : pl6_14 × sl6_14) (h : de6_14 vt vc = some a) : vt = vt6_14 a ∧ vc = vc6_14 a := by
  unfold de6_14 at h
  split at h
  rotate_left
  · cases h
  split at h
  rotate_left
  · cases h
  split at h
  rotate_left
  · cases h
  split at h
  rotate_left
  · cases h
  split at h
  rotate_left
  · cases h
  split at h
  rotate_left
  · cases h
  split at h
  rotate_left
  · cases h
  injection h with h
  subst h
  exact ⟨rfl, rfl⟩
noncomputable def g6_14 (p : pl6_14) (s : sl6_14) : Bool := go6_14 p.1 p.2.1 s.1 p.2.2 s.2
noncomputable def n6_14 (p : pl6_14) (s : sl6_14) : sl6_14 := (nx6_14_2 p.1 p.2.1 s.1 p.2.2 s.2, nx6_14_4 p.1 p.2.1 s.1 p.2.2 s.2)
noncomputable def y6_14 (p : pl6_14) (s : sl6_14) : List (Bool × Out) := [(xc6_14_0 p.1 p.2.1 s.1 p.2.2 s.2, (Ex.ret, [AV.bool false, AV.hp (nat_lit 3) (nat_lit 0)], [Blk.var [AV.int IntKind.i64 p.2.2, AV.sl Tk.imm [Kd.int IntKind.i64, Kd.int IntKind.i64, Kd.int IntKind.i64, Kd.int IntKind.i64] (xv6_14_0_0 p.1 p.2.1 s.1 p.2.2 s.2)]]))]
noncomputable def z6_14 (p : pl6_14) (s : sl6_14) : Bool := xc6_14_1 p.1 p.2.1 s.1 p.2.2 s.2
noncomputable def d6_14 (p : pl6_14) (s : sl6_14) : Out := (Ex.exit (nat_lit 2), [AV.junk, AV.hp (nat_lit 3) (nat_lit 0)], [Blk.var [AV.int IntKind.i64 p.2.2, AV.sl Tk.imm [Kd.int IntKind.i64, Kd.int IntKind.i64, Kd.int IntKind.i64, Kd.int IntKind.i64] s.2]])
noncomputable def ls6_14 : St → Option (Bool × List (Bool × Ex × St) × Ex × St) := lspOf [2, 7, 10, 11] [3] [6, 7] [3] Try.f6.ntmps (0 + tab.nid 6) de6_14 (spI g6_14 n6_14 y6_14 z6_14 d6_14)
theorem lo6_14 (rest : Lsp) : LoopOK1 (cfg Try.prog tab 100000 (gk k17 30) (selL 5 ls6_5 (selL 14 ls6_14 rest)) 6 0 Try.f6.ntmps) (loopAt Try.f6 14) := LoopOK1.iter (i := 14) (by kernel_rfl) [2, 7, 10, 11] [3] [6, 7] [3] vt6_14 vc6_14 de6_14 g6_14 n6_14 y6_14 z6_14 d6_14 (fun _ => rfl) de6_14_ok (fun p s => rd6_14 (selL 14 ls6_14 rest) (p.1) (p.2.1) (s.1) (p.2.2) (s.2)) (fun _ _ => rfl)
noncomputable def lsp6 : Lsp := (selL 5 ls6_5 (selL 14 ls6_14 noLsp))
theorem loops6 : ∀ c, Try.f6.body = some c → LoopsOK (cfg Try.prog tab 100000 (gk k17 30) lsp6 6 0 Try.f6.ntmps) c := loops_of [5, 14] (by kernel_rfl) (by kernel_rfl) (fun i hi => by
  simp only [List.mem_cons, List.not_mem_nil, or_false] at hi
  rcases hi with rfl | rfl
  · exact lo6_5 (selL 14 ls6_14 noLsp)
  · exact lo6_14 noLsp)
noncomputable def rev6_0 (l : Int) (es : List (List AV)) (cost : Int) (ls : List (List AV)) : Int := (↑(vev9_0 l es).length : Int)
noncomputable def rev6_1 (l : Int) (es : List (List AV)) (cost : Int) (ls : List (List AV)) : sl6_5 := finL (g6_5 (cost, ls, l, vev9_0 l es)) (n6_5 (cost, ls, l, vev9_0 l es)) (0 : Int)
noncomputable def rev6_2 (l : Int) (es : List (List AV)) (cost : Int) (ls : List (List AV)) : Int := IntKind.i64.wrap ((1 : Int) + IntKind.i64.wrap (cost.tmod (9 : Int)))
noncomputable def rev6_3 (l : Int) (es : List (List AV)) (cost : Int) (ls : List (List AV)) : List (List AV) := vev10_0 l (vev9_0 l es) (1000 : Int) (7 : Int) (rev6_2 l es cost ls)
noncomputable def rev6_4 (l : Int) (es : List (List AV)) (cost : Int) (ls : List (List AV)) : Int := IntKind.i64.wrap (vev22_0 l Tk.imm (rev6_3 l es cost ls) + l)
noncomputable def rev6_5 (l : Int) (es : List (List AV)) (cost : Int) (ls : List (List AV)) : sl6_14 := finL (g6_14 (ls, rev6_4 l es cost ls, l)) (n6_14 (ls, rev6_4 l es cost ls, l)) ((0 : Int), rev6_3 l es cost ls)
noncomputable def rev6_6 (l : Int) (es : List (List AV)) (cost : Int) (ls : List (List AV)) : List (List AV) := (rev6_5 l es cost ls).snd
noncomputable def vev6_0 (l : Int) (es : List (List AV)) (cost : Int) (ls : List (List AV)) : Bool := bif bif !vev7_0 l Tk.imm es then true else bif decide ((↑ls.length : Int) > (200 : Int)) then true else bif vev24_1 l Tk.imm (vev9_0 l es) then bif vev24_0 l Tk.imm (vev9_0 l es) != (0 : Int) then true else decide (rev6_0 l es cost ls > (12 : Int)) else false then true else bif xc6_5_0 cost ls (rev6_1 l es cost ls) l (vev9_0 l es) then true else bif vev10_1 l (vev9_0 l es) (1000 : Int) (7 : Int) (rev6_2 l es cost ls) != (0 : Int) then false else bif xc6_14_0 ls (rev6_4 l es cost ls) (rev6_5 l es cost ls).fst l (rev6_6 l es cost ls) then false else bif !vev12_1 l (rev6_6 l es cost ls) (1000 : Int) then bif true then true else false else false
noncomputable def vev6_1 (l : Int) (es : List (List AV)) (cost : Int) (ls : List (List AV)) : Bool := bif vev9_1 l es then bif bif !vev7_0 l Tk.imm es then true else bif decide ((↑ls.length : Int) > (200 : Int)) then true else vev24_1 l Tk.imm (vev9_0 l es) then bif bif !vev7_0 l Tk.imm es then true else bif decide ((↑ls.length : Int) > (200 : Int)) then true else bif vev24_1 l Tk.imm (vev9_0 l es) then bif vev24_0 l Tk.imm (vev9_0 l es) != (0 : Int) then true else decide (rev6_0 l es cost ls > (12 : Int)) else false then true else bif (spI g6_5 n6_5 y6_5 z6_5 d6_5 ((cost, ls, l, vev9_0 l es), (0 : Int))).fst then bif xc6_5_0 cost ls (rev6_1 l es cost ls) l (vev9_0 l es) then true else bif vev10_2 l (vev9_0 l es) (1000 : Int) (7 : Int) (rev6_2 l es cost ls) then bif vev10_1 l (vev9_0 l es) (1000 : Int) (7 : Int) (rev6_2 l es cost ls) != (0 : Int) then true else bif vev22_1 l Tk.imm (rev6_3 l es cost ls) then bif (spI g6_14 n6_14 y6_14 z6_14 d6_14 ((ls, rev6_4 l es cost ls, l), (0 : Int), rev6_3 l es cost ls)).fst then bif xc6_14_0 ls (rev6_4 l es cost ls) (rev6_5 l es cost ls).fst l (rev6_6 l es cost ls) then true else bif vev12_2 l (rev6_6 l es cost ls) (1000 : Int) then true else false else false else false else false else false else false else false
theorem ev6 (l : Int) (es : List (List AV)) (cost : Int) (ls : List (List AV)) : evFun (cfg Try.prog tab 100000 (gk k17 30) lsp6 6 ([] : List Blk).length Try.f6.ntmps) Try.f6 [.agg [.int .i64 l, .sl .imm [.int .i64, .int .i64, .int .i64, .int .i64] es], .int .u8 cost, .sl .imm [.int .u8] ls] [] = bif vev6_1 l es cost ls then some (AV.bool (vev6_0 l es cost ls), []) else none := by
  have h : evFun (cfg Try.prog tab 100000 (gk k17 30) lsp6 6 ([] : List Blk).length Try.f6.ntmps) Try.f6 [.agg [.int .i64 l, .sl .imm [.int .i64, .int .i64, .int .i64, .int .i64] es], .int .u8 cost, .sl .imm [.int .u8] ls] [] = bif vev9_1 l es then bif bif !vev7_0 l Tk.imm es then true else bif bif false then true else decide ((↑ls.length : Int) > (200 : Int)) then true else bif vev24_1 l Tk.imm (vev9_0 l es) then bif bif false then true else vev24_0 l Tk.imm (vev9_0 l es) != (0 : Int) then true else true else false then bif bif !vev7_0 l Tk.imm es then true else bif bif false then true else decide ((↑ls.length : Int) > (200 : Int)) then true else bif vev24_1 l Tk.imm (vev9_0 l es) then bif bif false then true else vev24_0 l Tk.imm (vev9_0 l es) != (0 : Int) then true else bif false then true else decide (rev6_0 l es cost ls > (12 : Int)) else false then some (AV.bool true, []) else bif (spI g6_5 n6_5 y6_5 z6_5 d6_5 ((cost, ls, l, vev9_0 l es), (0 : Int))).fst then bif xc6_5_0 cost ls (rev6_1 l es cost ls) l (vev9_0 l es) then some (AV.bool true, []) else bif vev10_2 l (vev9_0 l es) (1000 : Int) (7 : Int) (rev6_2 l es cost ls) then bif vev10_1 l (vev9_0 l es) (1000 : Int) (7 : Int) (rev6_2 l es cost ls) != (0 : Int) then some (AV.bool false, []) else bif vev22_1 l Tk.imm (rev6_3 l es cost ls) then bif (spI g6_14 n6_14 y6_14 z6_14 d6_14 ((ls, rev6_4 l es cost ls, l), (0 : Int), rev6_3 l es cost ls)).fst then bif xc6_14_0 ls (rev6_4 l es cost ls) (rev6_5 l es cost ls).fst l (rev6_6 l es cost ls) then some (AV.bool false, []) else bif vev12_2 l (rev6_6 l es cost ls) (1000 : Int) then bif bif !vev12_1 l (rev6_6 l es cost ls) (1000 : Int) then true else true then some (AV.bool (bif !vev12_1 l (rev6_6 l es cost ls) (1000 : Int) then bif true then true else false else false), []) else none else none else none else none else none else none else none else none := by kernel_rfl
  rw [h]
  clear h
  unfold vev6_0 vev6_1
  generalize ((spI g6_5 n6_5 y6_5 z6_5 d6_5 ((cost, ls, l, vev9_0 l es), (0 : Int))).fst) = c0
  generalize ((spI g6_14 n6_14 y6_14 z6_14 d6_14 ((ls, rev6_4 l es cost ls, l), (0 : Int), rev6_3 l es cost ls)).fst) = c1
  generalize (vev10_1 l (vev9_0 l es) (1000 : Int) (7 : Int) (rev6_2 l es cost ls) != (0 : Int)) = c2
  generalize (decide ((↑ls.length : Int) > (200 : Int))) = c3
  generalize (decide (rev6_0 l es cost ls > (12 : Int))) = c4
  generalize (xc6_14_0 ls (rev6_4 l es cost ls) (rev6_5 l es cost ls).fst l (rev6_6 l es cost ls)) = c5
  generalize (vev10_2 l (vev9_0 l es) (1000 : Int) (7 : Int) (rev6_2 l es cost ls)) = c6
  generalize (vev24_0 l Tk.imm (vev9_0 l es) != (0 : Int)) = c7
  generalize (!vev12_1 l (rev6_6 l es cost ls) (1000 : Int)) = c8
  generalize (xc6_5_0 cost ls (rev6_1 l es cost ls) l (vev9_0 l es)) = c9
  generalize (vev12_2 l (rev6_6 l es cost ls) (1000 : Int)) = c10
  generalize (vev22_1 l Tk.imm (rev6_3 l es cost ls)) = c11
  generalize (vev24_1 l Tk.imm (vev9_0 l es)) = c12
  generalize (!vev7_0 l Tk.imm es) = c13
  generalize (vev9_1 l es) = c14
  cases c14
  · skip
    rfl
  · skip
    cases c13
    · skip
      cases c3
      · skip
        cases c12
        · skip
          rfl
        · skip
          cases c7
          · skip
            cases c4
            · skip
              cases c0
              · skip
                rfl
              · skip
                cases c9
                · skip
                  cases c6
                  · skip
                    rfl
                  · skip
                    cases c2
                    · skip
                      cases c11
                      · skip
                        rfl
                      · skip
                        cases c1
                        · skip
                          rfl
                        · skip
                          cases c5
                          · skip
                            cases c10
                            · skip
                              rfl
                            · skip
                              cases c8
                              · skip
                                rfl
                              · skip
                                rfl
                          · skip
                            rfl
                    · skip
                      rfl
                · skip
                  rfl
            · skip
              rfl
          · skip
            rfl
      · skip
        rfl
    · skip
      rfl
-- spec vev6_1 l es cost ls ;; (AV.bool (vev6_0 l es cost ls), [])
-- law 6: loops loops6 gam k17
end Go.Proofs.Gv
