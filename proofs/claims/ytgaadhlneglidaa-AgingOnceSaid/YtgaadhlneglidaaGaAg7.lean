import Derived.Test.YtgaadhlneglidaaGt
import Derived.KernelRfl
import Derived.Test.YtgaadhlneglidaaGwF
import Derived.Test.YtgaadhlneglidaaGaAg4
namespace Go.Proofs.Gv
open Go.Proofs
set_option linter.unusedVariables false
noncomputable def rn5_29_0 (t1 : List (List AV)) (t2 : List (List AV)) (t10 : Int) (t17 : Int) (b0_0 : Int) (b0_1 : List (List AV)) (b5_0 : Int) (b5_1 : List (List AV)) (b5_4 : Int) (b7 : List (List AV)) (b8 : List (List AV)) : Int := intOf ((b0_1.getD t17.toNat []).getD ((0 : Nat) + (1 : Nat) + (1 : Nat) + (1 : Nat)) AV.junk)
noncomputable def go5_29 (t1 : List (List AV)) (t2 : List (List AV)) (t10 : Int) (t17 : Int) (b0_0 : Int) (b0_1 : List (List AV)) (b5_0 : Int) (b5_1 : List (List AV)) (b5_4 : Int) (b7 : List (List AV)) (b8 : List (List AV)) : Bool := bif decide (t17 < (↑b0_1.length : Int)) then bif decide ((0 : Int) ≤ t17) && decide (t17 < (↑b0_1.length : Int)) then bif decide (rn5_29_0 t1 t2 t10 t17 b0_0 b0_1 b5_0 b5_1 b5_4 b7 b8 > b5_4) then false else true else false else false
noncomputable def nx5_29_3 (t1 : List (List AV)) (t2 : List (List AV)) (t10 : Int) (t17 : Int) (b0_0 : Int) (b0_1 : List (List AV)) (b5_0 : Int) (b5_1 : List (List AV)) (b5_4 : Int) (b7 : List (List AV)) (b8 : List (List AV)) : Int := IntKind.i64.wrap (t17 + (1 : Int))
noncomputable def xc5_29_0 (t1 : List (List AV)) (t2 : List (List AV)) (t10 : Int) (t17 : Int) (b0_0 : Int) (b0_1 : List (List AV)) (b5_0 : Int) (b5_1 : List (List AV)) (b5_4 : Int) (b7 : List (List AV)) (b8 : List (List AV)) : Bool := bif decide (t17 < (↑b0_1.length : Int)) then bif decide ((0 : Int) ≤ t17) && decide (t17 < (↑b0_1.length : Int)) then decide (rn5_29_0 t1 t2 t10 t17 b0_0 b0_1 b5_0 b5_1 b5_4 b7 b8 > b5_4) else false else false
noncomputable def xc5_29_1 (t1 : List (List AV)) (t2 : List (List AV)) (t10 : Int) (t17 : Int) (b0_0 : Int) (b0_1 : List (List AV)) (b5_0 : Int) (b5_1 : List (List AV)) (b5_4 : Int) (b7 : List (List AV)) (b8 : List (List AV)) : Bool := bif decide (t17 < (↑b0_1.length : Int)) then false else true
theorem rd5_29 (rest : Lsp) (t1 : List (List AV)) (t2 : List (List AV)) (t10 : Int) (t17 : Int) (b0_0 : Int) (b0_1 : List (List AV)) (b5_0 : Int) (b5_1 : List (List AV)) (b5_4 : Int) (b7 : List (List AV)) (b8 : List (List AV)) : roundV (cfg Try.prog tab 100000 (gk k17 30) rest 5 0 Try.f5.ntmps) (loopAt Try.f5 29) [1, 2, 9, 10, 14, 17] [0, 2, 3, 5, 7, 8] [1, 2, 6, 9, 10, 14] [0, 2, 3, 5, 7, 8] [AV.sl Tk.imm [Kd.int IntKind.u8] t1, AV.sl Tk.imm [Kd.int IntKind.u8] t2, AV.hp (nat_lit 5) (nat_lit 0), AV.int IntKind.i64 t10, AV.hp (nat_lit 0) (nat_lit 0), AV.int IntKind.i64 t17] [Blk.var [AV.int IntKind.i64 b0_0, AV.sl Tk.imm [Kd.int IntKind.i64, Kd.int IntKind.i64, Kd.int IntKind.i64, Kd.int IntKind.i64] b0_1], Blk.dead, Blk.dead, Blk.var [AV.int IntKind.i64 b5_0, AV.sl Tk.imm [Kd.int IntKind.i64, Kd.int IntKind.i64, Kd.int IntKind.i64, Kd.int IntKind.i64] b5_1, AV.rf (nat_lit 8) [Kd.int IntKind.i64], AV.rf (nat_lit 7) [Kd.int IntKind.i64], AV.int IntKind.i64 b5_4], Blk.row [Kd.int IntKind.i64] b7, Blk.row [Kd.int IntKind.i64] b8] = bif go5_29 t1 t2 t10 t17 b0_0 b0_1 b5_0 b5_1 b5_4 b7 b8 then some (Ex.norm, [AV.sl Tk.imm [Kd.int IntKind.u8] t1, AV.sl Tk.imm [Kd.int IntKind.u8] t2, AV.hp (nat_lit 5) (nat_lit 0), AV.int IntKind.i64 t10, AV.hp (nat_lit 0) (nat_lit 0), AV.int IntKind.i64 (nx5_29_3 t1 t2 t10 t17 b0_0 b0_1 b5_0 b5_1 b5_4 b7 b8)], [Blk.var [AV.int IntKind.i64 b0_0, AV.sl Tk.imm [Kd.int IntKind.i64, Kd.int IntKind.i64, Kd.int IntKind.i64, Kd.int IntKind.i64] b0_1], Blk.dead, Blk.dead, Blk.var [AV.int IntKind.i64 b5_0, AV.sl Tk.imm [Kd.int IntKind.i64, Kd.int IntKind.i64, Kd.int IntKind.i64, Kd.int IntKind.i64] b5_1, AV.rf (nat_lit 8) [Kd.int IntKind.i64], AV.rf (nat_lit 7) [Kd.int IntKind.i64], AV.int IntKind.i64 b5_4], Blk.row [Kd.int IntKind.i64] b7, Blk.row [Kd.int IntKind.i64] b8]) else bif xc5_29_0 t1 t2 t10 t17 b0_0 b0_1 b5_0 b5_1 b5_4 b7 b8 then some (Ex.ret, [AV.sl Tk.imm [Kd.int IntKind.u8] t1, AV.sl Tk.imm [Kd.int IntKind.u8] t2, AV.bool false, AV.hp (nat_lit 5) (nat_lit 0), AV.int IntKind.i64 t10, AV.hp (nat_lit 0) (nat_lit 0)], [Blk.var [AV.int IntKind.i64 b0_0, AV.sl Tk.imm [Kd.int IntKind.i64, Kd.int IntKind.i64, Kd.int IntKind.i64, Kd.int IntKind.i64] b0_1], Blk.dead, Blk.dead, Blk.var [AV.int IntKind.i64 b5_0, AV.sl Tk.imm [Kd.int IntKind.i64, Kd.int IntKind.i64, Kd.int IntKind.i64, Kd.int IntKind.i64] b5_1, AV.rf (nat_lit 8) [Kd.int IntKind.i64], AV.rf (nat_lit 7) [Kd.int IntKind.i64], AV.int IntKind.i64 b5_4], Blk.row [Kd.int IntKind.i64] b7, Blk.row [Kd.int IntKind.i64] b8]) else bif xc5_29_1 t1 t2 t10 t17 b0_0 b0_1 b5_0 b5_1 b5_4 b7 b8 then some (Ex.exit (nat_lit 2), [AV.sl Tk.imm [Kd.int IntKind.u8] t1, AV.sl Tk.imm [Kd.int IntKind.u8] t2, AV.junk, AV.hp (nat_lit 5) (nat_lit 0), AV.int IntKind.i64 t10, AV.hp (nat_lit 0) (nat_lit 0)], [Blk.var [AV.int IntKind.i64 b0_0, AV.sl Tk.imm [Kd.int IntKind.i64, Kd.int IntKind.i64, Kd.int IntKind.i64, Kd.int IntKind.i64] b0_1], Blk.dead, Blk.dead, Blk.var [AV.int IntKind.i64 b5_0, AV.sl Tk.imm [Kd.int IntKind.i64, Kd.int IntKind.i64, Kd.int IntKind.i64, Kd.int IntKind.i64] b5_1, AV.rf (nat_lit 8) [Kd.int IntKind.i64], AV.rf (nat_lit 7) [Kd.int IntKind.i64], AV.int IntKind.i64 b5_4], Blk.row [Kd.int IntKind.i64] b7, Blk.row [Kd.int IntKind.i64] b8]) else none := by
  have h : roundV (cfg Try.prog tab 100000 (gk k17 30) rest 5 0 Try.f5.ntmps) (loopAt Try.f5 29) [1, 2, 9, 10, 14, 17] [0, 2, 3, 5, 7, 8] [1, 2, 6, 9, 10, 14] [0, 2, 3, 5, 7, 8] [AV.sl Tk.imm [Kd.int IntKind.u8] t1, AV.sl Tk.imm [Kd.int IntKind.u8] t2, AV.hp (nat_lit 5) (nat_lit 0), AV.int IntKind.i64 t10, AV.hp (nat_lit 0) (nat_lit 0), AV.int IntKind.i64 t17] [Blk.var [AV.int IntKind.i64 b0_0, AV.sl Tk.imm [Kd.int IntKind.i64, Kd.int IntKind.i64, Kd.int IntKind.i64, Kd.int IntKind.i64] b0_1], Blk.dead, Blk.dead, Blk.var [AV.int IntKind.i64 b5_0, AV.sl Tk.imm [Kd.int IntKind.i64, Kd.int IntKind.i64, Kd.int IntKind.i64, Kd.int IntKind.i64] b5_1, AV.rf (nat_lit 8) [Kd.int IntKind.i64], AV.rf (nat_lit 7) [Kd.int IntKind.i64], AV.int IntKind.i64 b5_4], Blk.row [Kd.int IntKind.i64] b7, Blk.row [Kd.int IntKind.i64] b8] = bif decide (t17 < (↑b0_1.length : Int)) then bif decide ((0 : Int) ≤ t17) && decide (t17 < (↑b0_1.length : Int)) then bif decide (rn5_29_0 t1 t2 t10 t17 b0_0 b0_1 b5_0 b5_1 b5_4 b7 b8 > b5_4) then some (Ex.ret, [AV.sl Tk.imm [Kd.int IntKind.u8] t1, AV.sl Tk.imm [Kd.int IntKind.u8] t2, AV.bool false, AV.hp (nat_lit 5) (nat_lit 0), AV.int IntKind.i64 t10, AV.hp (nat_lit 0) (nat_lit 0)], [Blk.var [AV.int IntKind.i64 b0_0, AV.sl Tk.imm [Kd.int IntKind.i64, Kd.int IntKind.i64, Kd.int IntKind.i64, Kd.int IntKind.i64] b0_1], Blk.dead, Blk.dead, Blk.var [AV.int IntKind.i64 b5_0, AV.sl Tk.imm [Kd.int IntKind.i64, Kd.int IntKind.i64, Kd.int IntKind.i64, Kd.int IntKind.i64] b5_1, AV.rf (nat_lit 8) [Kd.int IntKind.i64], AV.rf (nat_lit 7) [Kd.int IntKind.i64], AV.int IntKind.i64 b5_4], Blk.row [Kd.int IntKind.i64] b7, Blk.row [Kd.int IntKind.i64] b8]) else some (Ex.norm, [AV.sl Tk.imm [Kd.int IntKind.u8] t1, AV.sl Tk.imm [Kd.int IntKind.u8] t2, AV.hp (nat_lit 5) (nat_lit 0), AV.int IntKind.i64 t10, AV.hp (nat_lit 0) (nat_lit 0), AV.int IntKind.i64 (IntKind.i64.wrap (t17 + (1 : Int)))], [Blk.var [AV.int IntKind.i64 b0_0, AV.sl Tk.imm [Kd.int IntKind.i64, Kd.int IntKind.i64, Kd.int IntKind.i64, Kd.int IntKind.i64] b0_1], Blk.dead, Blk.dead, Blk.var [AV.int IntKind.i64 b5_0, AV.sl Tk.imm [Kd.int IntKind.i64, Kd.int IntKind.i64, Kd.int IntKind.i64, Kd.int IntKind.i64] b5_1, AV.rf (nat_lit 8) [Kd.int IntKind.i64], AV.rf (nat_lit 7) [Kd.int IntKind.i64], AV.int IntKind.i64 b5_4], Blk.row [Kd.int IntKind.i64] b7, Blk.row [Kd.int IntKind.i64] b8]) else none else some (Ex.exit (nat_lit 2), [AV.sl Tk.imm [Kd.int IntKind.u8] t1, AV.sl Tk.imm [Kd.int IntKind.u8] t2, AV.junk, AV.hp (nat_lit 5) (nat_lit 0), AV.int IntKind.i64 t10, AV.hp (nat_lit 0) (nat_lit 0)], [Blk.var [AV.int IntKind.i64 b0_0, AV.sl Tk.imm [Kd.int IntKind.i64, Kd.int IntKind.i64, Kd.int IntKind.i64, Kd.int IntKind.i64] b0_1], Blk.dead, Blk.dead, Blk.var [AV.int IntKind.i64 b5_0, AV.sl Tk.imm [Kd.int IntKind.i64, Kd.int IntKind.i64, Kd.int IntKind.i64, Kd.int IntKind.i64] b5_1, AV.rf (nat_lit 8) [Kd.int IntKind.i64], AV.rf (nat_lit 7) [Kd.int IntKind.i64], AV.int IntKind.i64 b5_4], Blk.row [Kd.int IntKind.i64] b7, Blk.row [Kd.int IntKind.i64] b8]) := by kernel_rfl
  rw [h]
  clear h
  unfold go5_29 nx5_29_3 xc5_29_0 xc5_29_1
  generalize (decide ((0 : Int) ≤ t17) && decide (t17 < (↑b0_1.length : Int))) = c0
  generalize (decide (rn5_29_0 t1 t2 t10 t17 b0_0 b0_1 b5_0 b5_1 b5_4 b7 b8 > b5_4)) = c1
  generalize (decide (t17 < (↑b0_1.length : Int))) = c2
  cases c2
  · skip
    rfl
  · skip
    cases c0
    · skip
      rfl
    · skip
      cases c1
      · skip
        rfl
      · skip
        rfl
abbrev pl5_29 : Type := (List (List AV)) × (List (List AV)) × Int × Int × (List (List AV)) × Int × (List (List AV)) × Int × (List (List AV)) × (List (List AV))
abbrev sl5_29 : Type := Int
noncomputable def vt5_29 (a : pl5_29 × sl5_29) : List AV := [AV.sl Tk.imm [Kd.int IntKind.u8] a.1.1, AV.sl Tk.imm [Kd.int IntKind.u8] a.1.2.1, AV.hp (nat_lit 5) (nat_lit 0), AV.int IntKind.i64 a.1.2.2.1, AV.hp (nat_lit 0) (nat_lit 0), AV.int IntKind.i64 a.2]
noncomputable def vc5_29 (a : pl5_29 × sl5_29) : List Blk := [Blk.var [AV.int IntKind.i64 a.1.2.2.2.1, AV.sl Tk.imm [Kd.int IntKind.i64, Kd.int IntKind.i64, Kd.int IntKind.i64, Kd.int IntKind.i64] a.1.2.2.2.2.1], Blk.dead, Blk.dead, Blk.var [AV.int IntKind.i64 a.1.2.2.2.2.2.1, AV.sl Tk.imm [Kd.int IntKind.i64, Kd.int IntKind.i64, Kd.int IntKind.i64, Kd.int IntKind.i64] a.1.2.2.2.2.2.2.1, AV.rf (nat_lit 8) [Kd.int IntKind.i64], AV.rf (nat_lit 7) [Kd.int IntKind.i64], AV.int IntKind.i64 a.1.2.2.2.2.2.2.2.1], Blk.row [Kd.int IntKind.i64] a.1.2.2.2.2.2.2.2.2.1, Blk.row [Kd.int IntKind.i64] a.1.2.2.2.2.2.2.2.2.2]
noncomputable def de5_29 (vt : List AV) (vc : List Blk) : Option (pl5_29 × sl5_29) :=
  match vt with
  | [qa0, qa1, qa2, qa3, qa4, qa5] => (match vc with
  | [qb0, qb1, qb2, qb3, qb4, qb5] => (match qa0 with
  | AV.sl Tk.imm [Kd.int IntKind.u8] t1 => (match qa1 with
  | AV.sl Tk.imm [Kd.int IntKind.u8] t2 => (match qa2 with
  | AV.hp (5) (0) => (match qa3 with
  | AV.int IntKind.i64 t10 => (match qa4 with
  | AV.hp (0) (0) => (match qa5 with
  | AV.int IntKind.i64 t17 => (match qb0 with
  | Blk.var [AV.int IntKind.i64 b0_0, AV.sl Tk.imm [Kd.int IntKind.i64, Kd.int IntKind.i64, Kd.int IntKind.i64, Kd.int IntKind.i64] b0_1] => (match qb1 with
  | Blk.dead => (match qb2 with
  | Blk.dead => (match qb3 with
  | Blk.var [AV.int IntKind.i64 b5_0, AV.sl Tk.imm [Kd.int IntKind.i64, Kd.int IntKind.i64, Kd.int IntKind.i64, Kd.int IntKind.i64] b5_1, AV.rf (8) [Kd.int IntKind.i64], AV.rf (7) [Kd.int IntKind.i64], AV.int IntKind.i64 b5_4] => (match qb4 with
  | Blk.row [Kd.int IntKind.i64] b7 => (match qb5 with
  | Blk.row [Kd.int IntKind.i64] b8 => (some ((t1, t2, t10, b0_0, b0_1, b5_0, b5_1, b5_4, b7, b8), t17))
  | _ => none)
  | _ => none)
  | _ => none)
  | _ => none)
  | _ => none)
  | _ => none)
  | _ => none)
  | _ => none)
  | _ => none)
  | _ => none)
  | _ => none)
  | _ => none)
  | _ => none)
  | _ => none
theorem de5_29_ok (vt : List AV) (vc : List Blk) (a : pl5_29 × sl5_29) (h : de5_29 vt vc = some a) : vt = vt5_29 a ∧ vc = vc5_29 a := by
  unfold de5_29 at h
  split at h
  rotate_left
  · cases h
  split at h
  rotate_left
  · cases h
  split at h
  rotate_left
  · cases h
  split at h
  rotate_left
  · cases h
  split at h
  rotate_left
  · cases h
  split at h
  rotate_left
  · cases h
  split at h
  rotate_left
  · cases h
  split at h
  rotate_left
  · cases h
  split at h
  rotate_left
  · cases h
  split at h
  rotate_left
  · cases h
  split at h
  rotate_left
  · cases h
  split at h
  rotate_left
  · cases h
  split at h
  rotate_left
  · cases h
  split at h
  rotate_left
  · cases h
  injection h with h
  subst h
  exact ⟨rfl, rfl⟩
noncomputable def g5_29 (p : pl5_29) (s : sl5_29) : Bool := go5_29 p.1 p.2.1 p.2.2.1 s p.2.2.2.1 p.2.2.2.2.1 p.2.2.2.2.2.1 p.2.2.2.2.2.2.1 p.2.2.2.2.2.2.2.1 p.2.2.2.2.2.2.2.2.1 p.2.2.2.2.2.2.2.2.2
noncomputable def n5_29 (p : pl5_29) (s : sl5_29) : sl5_29 := nx5_29_3 p.1 p.2.1 p.2.2.1 s p.2.2.2.1 p.2.2.2.2.1 p.2.2.2.2.2.1 p.2.2.2.2.2.2.1 p.2.2.2.2.2.2.2.1 p.2.2.2.2.2.2.2.2.1 p.2.2.2.2.2.2.2.2.2
noncomputable def y5_29 (p : pl5_29) (s : sl5_29) : List (Bool × Out) := [(xc5_29_0 p.1 p.2.1 p.2.2.1 s p.2.2.2.1 p.2.2.2.2.1 p.2.2.2.2.2.1 p.2.2.2.2.2.2.1 p.2.2.2.2.2.2.2.1 p.2.2.2.2.2.2.2.2.1 p.2.2.2.2.2.2.2.2.2, (Ex.ret, [AV.sl Tk.imm [Kd.int IntKind.u8] p.1, AV.sl Tk.imm [Kd.int IntKind.u8] p.2.1, AV.bool false, AV.hp (nat_lit 5) (nat_lit 0), AV.int IntKind.i64 p.2.2.1, AV.hp (nat_lit 0) (nat_lit 0)], [Blk.var [AV.int IntKind.i64 p.2.2.2.1, AV.sl Tk.imm [Kd.int IntKind.i64, Kd.int IntKind.i64, Kd.int IntKind.i64, Kd.int IntKind.i64] p.2.2.2.2.1], Blk.dead, Blk.dead, Blk.var [AV.int IntKind.i64 p.2.2.2.2.2.1, AV.sl Tk.imm [Kd.int IntKind.i64, Kd.int IntKind.i64, Kd.int IntKind.i64, Kd.int IntKind.i64] p.2.2.2.2.2.2.1, AV.rf (nat_lit 8) [Kd.int IntKind.i64], AV.rf (nat_lit 7) [Kd.int IntKind.i64], AV.int IntKind.i64 p.2.2.2.2.2.2.2.1], Blk.row [Kd.int IntKind.i64] p.2.2.2.2.2.2.2.2.1, Blk.row [Kd.int IntKind.i64] p.2.2.2.2.2.2.2.2.2]))]
noncomputable def z5_29 (p : pl5_29) (s : sl5_29) : Bool := xc5_29_1 p.1 p.2.1 p.2.2.1 s p.2.2.2.1 p.2.2.2.2.1 p.2.2.2.2.2.1 p.2.2.2.2.2.2.1 p.2.2.2.2.2.2.2.1 p.2.2.2.2.2.2.2.2.1 p.2.2.2.2.2.2.2.2.2
noncomputable def d5_29 (p : pl5_29) (s : sl5_29) : Out := (Ex.exit (nat_lit 2), [AV.sl Tk.imm [Kd.int IntKind.u8] p.1, AV.sl Tk.imm [Kd.int IntKind.u8] p.2.1, AV.junk, AV.hp (nat_lit 5) (nat_lit 0), AV.int IntKind.i64 p.2.2.1, AV.hp (nat_lit 0) (nat_lit 0)], [Blk.var [AV.int IntKind.i64 p.2.2.2.1, AV.sl Tk.imm [Kd.int IntKind.i64, Kd.int IntKind.i64, Kd.int IntKind.i64, Kd.int IntKind.i64] p.2.2.2.2.1], Blk.dead, Blk.dead, Blk.var [AV.int IntKind.i64 p.2.2.2.2.2.1, AV.sl Tk.imm [Kd.int IntKind.i64, Kd.int IntKind.i64, Kd.int IntKind.i64, Kd.int IntKind.i64] p.2.2.2.2.2.2.1, AV.rf (nat_lit 8) [Kd.int IntKind.i64], AV.rf (nat_lit 7) [Kd.int IntKind.i64], AV.int IntKind.i64 p.2.2.2.2.2.2.2.1], Blk.row [Kd.int IntKind.i64] p.2.2.2.2.2.2.2.2.1, Blk.row [Kd.int IntKind.i64] p.2.2.2.2.2.2.2.2.2])
noncomputable def ls5_29 : St → Option (Bool × List (Bool × Ex × St) × Ex × St) := lspOf [1, 2, 9, 10, 14, 17] [0, 2, 3, 5, 7, 8] [1, 2, 6, 9, 10, 14] [0, 2, 3, 5, 7, 8] Try.f5.ntmps (0 + tab.nid 5) de5_29 (spI g5_29 n5_29 y5_29 z5_29 d5_29)
theorem lo5_29 (rest : Lsp) : LoopOK1 (cfg Try.prog tab 100000 (gk k17 30) (selL 29 ls5_29 rest) 5 0 Try.f5.ntmps) (loopAt Try.f5 29) := LoopOK1.iter (i := 29) (by kernel_rfl) [1, 2, 9, 10, 14, 17] [0, 2, 3, 5, 7, 8] [1, 2, 6, 9, 10, 14] [0, 2, 3, 5, 7, 8] vt5_29 vc5_29 de5_29 g5_29 n5_29 y5_29 z5_29 d5_29 (fun _ => rfl) de5_29_ok (fun p s => rd5_29 (selL 29 ls5_29 rest) (p.1) (p.2.1) (p.2.2.1) s (p.2.2.2.1) (p.2.2.2.2.1) (p.2.2.2.2.2.1) (p.2.2.2.2.2.2.1) (p.2.2.2.2.2.2.2.1) (p.2.2.2.2.2.2.2.2.1) (p.2.2.2.2.2.2.2.2.2)) (fun _ _ => rfl)
noncomputable def rn5_8_0 (t1 : List (List AV)) (t2 : List (List AV)) (t10 : Int) (b5_0 : Int) (b5_1 : List (List AV)) (b5_4 : Int) (b7 : List (List AV)) (b8 : List (List AV)) : Int := intOf ((t2.getD t10.toNat []).getD (0 : Nat) AV.junk)
noncomputable def rn5_8_1 (t1 : List (List AV)) (t2 : List (List AV)) (t10 : Int) (b5_0 : Int) (b5_1 : List (List AV)) (b5_4 : Int) (b7 : List (List AV)) (b8 : List (List AV)) : Int := IntKind.i64.wrap ((1 : Int) + (↑b7.length : Int))
noncomputable def rn5_8_2 (t1 : List (List AV)) (t2 : List (List AV)) (t10 : Int) (b5_0 : Int) (b5_1 : List (List AV)) (b5_4 : Int) (b7 : List (List AV)) (b8 : List (List AV)) : Int := (IntKind.i64.wrap (intOf ((t1.getD t10.toNat []).getD (0 : Nat) AV.junk))).tmod (8 : Int)
noncomputable def rn5_8_3 (t1 : List (List AV)) (t2 : List (List AV)) (t10 : Int) (b5_0 : Int) (b5_1 : List (List AV)) (b5_4 : Int) (b7 : List (List AV)) (b8 : List (List AV)) : Int := IntKind.i64.wrap (rn5_8_0 t1 t2 t10 b5_0 b5_1 b5_4 b7 b8)
noncomputable def rn5_8_4 (t1 : List (List AV)) (t2 : List (List AV)) (t10 : Int) (b5_0 : Int) (b5_1 : List (List AV)) (b5_4 : Int) (b7 : List (List AV)) (b8 : List (List AV)) : Int := vev10_1 b5_0 b5_1 (rn5_8_1 t1 t2 t10 b5_0 b5_1 b5_4 b7 b8) (rn5_8_2 t1 t2 t10 b5_0 b5_1 b5_4 b7 b8) (rn5_8_3 t1 t2 t10 b5_0 b5_1 b5_4 b7 b8)
noncomputable def rn5_8_5 (t1 : List (List AV)) (t2 : List (List AV)) (t10 : Int) (b5_0 : Int) (b5_1 : List (List AV)) (b5_4 : Int) (b7 : List (List AV)) (b8 : List (List AV)) : List (List AV) := [[AV.int IntKind.i64 (rn5_8_3 t1 t2 t10 b5_0 b5_1 b5_4 b7 b8)]]
noncomputable def rn5_8_6 (t1 : List (List AV)) (t2 : List (List AV)) (t10 : Int) (b5_0 : Int) (b5_1 : List (List AV)) (b5_4 : Int) (b7 : List (List AV)) (b8 : List (List AV)) : Int := IntKind.i64.wrap ((1 : Int) + (IntKind.i64.wrap (intOf ((t1.getD t10.toNat []).getD (0 : Nat) AV.junk))).tmod (9 : Int))
noncomputable def rn5_8_7 (t1 : List (List AV)) (t2 : List (List AV)) (t10 : Int) (b5_0 : Int) (b5_1 : List (List AV)) (b5_4 : Int) (b7 : List (List AV)) (b8 : List (List AV)) : Int := vev14_5 b5_0 b5_1 (rn5_8_6 t1 t2 t10 b5_0 b5_1 b5_4 b7 b8)
noncomputable def rn5_8_8 (t1 : List (List AV)) (t2 : List (List AV)) (t10 : Int) (b5_0 : Int) (b5_1 : List (List AV)) (b5_4 : Int) (b7 : List (List AV)) (b8 : List (List AV)) : Int := vev14_1 b5_0 b5_1 (rn5_8_6 t1 t2 t10 b5_0 b5_1 b5_4 b7 b8)
noncomputable def rn5_8_9 (t1 : List (List AV)) (t2 : List (List AV)) (t10 : Int) (b5_0 : Int) (b5_1 : List (List AV)) (b5_4 : Int) (b7 : List (List AV)) (b8 : List (List AV)) : Int := IntKind.i64.wrap (rn5_8_8 t1 t2 t10 b5_0 b5_1 b5_4 b7 b8 - (1 : Int))
noncomputable def rn5_8_10 (t1 : List (List AV)) (t2 : List (List AV)) (t10 : Int) (b5_0 : Int) (b5_1 : List (List AV)) (b5_4 : Int) (b7 : List (List AV)) (b8 : List (List AV)) : List (List AV) := b8.set (rn5_8_9 t1 t2 t10 b5_0 b5_1 b5_4 b7 b8).toNat [AV.int IntKind.i64 (IntKind.i64.wrap (intOf ((b8.getD (rn5_8_9 t1 t2 t10 b5_0 b5_1 b5_4 b7 b8).toNat []).getD (0 : Nat) AV.junk) + rn5_8_7 t1 t2 t10 b5_0 b5_1 b5_4 b7 b8))]
noncomputable def rn5_8_11 (t1 : List (List AV)) (t2 : List (List AV)) (t10 : Int) (b5_0 : Int) (b5_1 : List (List AV)) (b5_4 : Int) (b7 : List (List AV)) (b8 : List (List AV)) : Int := (↑(rn5_8_10 t1 t2 t10 b5_0 b5_1 b5_4 b7 b8).length : Int)
noncomputable def rn5_8_12 (t1 : List (List AV)) (t2 : List (List AV)) (t10 : Int) (b5_0 : Int) (b5_1 : List (List AV)) (b5_4 : Int) (b7 : List (List AV)) (b8 : List (List AV)) : Int := vev14_3 b5_0 b5_1 (rn5_8_6 t1 t2 t10 b5_0 b5_1 b5_4 b7 b8)
noncomputable def rn5_8_13 (t1 : List (List AV)) (t2 : List (List AV)) (t10 : Int) (b5_0 : Int) (b5_1 : List (List AV)) (b5_4 : Int) (b7 : List (List AV)) (b8 : List (List AV)) : Int := IntKind.i64.wrap (intOf (((rn5_8_10 t1 t2 t10 b5_0 b5_1 b5_4 b7 b8).getD (rn5_8_9 t1 t2 t10 b5_0 b5_1 b5_4 b7 b8).toNat []).getD (0 : Nat) AV.junk) + rn5_8_12 t1 t2 t10 b5_0 b5_1 b5_4 b7 b8)
noncomputable def rn5_8_14 (t1 : List (List AV)) (t2 : List (List AV)) (t10 : Int) (b5_0 : Int) (b5_1 : List (List AV)) (b5_4 : Int) (b7 : List (List AV)) (b8 : List (List AV)) : Int := intOf ((b7.getD (rn5_8_9 t1 t2 t10 b5_0 b5_1 b5_4 b7 b8).toNat []).getD (0 : Nat) AV.junk)
noncomputable def rn5_8_15 (t1 : List (List AV)) (t2 : List (List AV)) (t10 : Int) (b5_0 : Int) (b5_1 : List (List AV)) (b5_4 : Int) (b7 : List (List AV)) (b8 : List (List AV)) : List (List AV) := vev14_0 b5_0 b5_1 (rn5_8_6 t1 t2 t10 b5_0 b5_1 b5_4 b7 b8)
noncomputable def rn5_8_16 (t1 : List (List AV)) (t2 : List (List AV)) (t10 : Int) (b5_0 : Int) (b5_1 : List (List AV)) (b5_4 : Int) (b7 : List (List AV)) (b8 : List (List AV)) : Int := (↑(rn5_8_15 t1 t2 t10 b5_0 b5_1 b5_4 b7 b8).length : Int)
noncomputable def rn5_8_17 (t1 : List (List AV)) (t2 : List (List AV)) (t10 : Int) (b5_0 : Int) (b5_1 : List (List AV)) (b5_4 : Int) (b7 : List (List AV)) (b8 : List (List AV)) : Int := IntKind.i64.wrap ((↑b5_1.length : Int) - (1 : Int))
noncomputable def rn5_8_18 (t1 : List (List AV)) (t2 : List (List AV)) (t10 : Int) (b5_0 : Int) (b5_1 : List (List AV)) (b5_4 : Int) (b7 : List (List AV)) (b8 : List (List AV)) : sl5_29 := finL (g5_29 (t1, t2, t10, b5_0, rn5_8_15 t1 t2 t10 b5_0 b5_1 b5_4 b7 b8, b5_0, rn5_8_15 t1 t2 t10 b5_0 b5_1 b5_4 b7 b8, b5_4, b7, rn5_8_10 t1 t2 t10 b5_0 b5_1 b5_4 b7 b8)) (n5_29 (t1, t2, t10, b5_0, rn5_8_15 t1 t2 t10 b5_0 b5_1 b5_4 b7 b8, b5_0, rn5_8_15 t1 t2 t10 b5_0 b5_1 b5_4 b7 b8, b5_4, b7, rn5_8_10 t1 t2 t10 b5_0 b5_1 b5_4 b7 b8)) (0 : Int)
noncomputable def rn5_8_19 (t1 : List (List AV)) (t2 : List (List AV)) (t10 : Int) (b5_0 : Int) (b5_1 : List (List AV)) (b5_4 : Int) (b7 : List (List AV)) (b8 : List (List AV)) : Int := rn5_29_0 t1 t2 t10 (rn5_8_18 t1 t2 t10 b5_0 b5_1 b5_4 b7 b8) b5_0 (rn5_8_15 t1 t2 t10 b5_0 b5_1 b5_4 b7 b8) b5_0 (rn5_8_15 t1 t2 t10 b5_0 b5_1 b5_4 b7 b8) b5_4 b7 (rn5_8_10 t1 t2 t10 b5_0 b5_1 b5_4 b7 b8)
noncomputable def rn5_8_20 (t1 : List (List AV)) (t2 : List (List AV)) (t10 : Int) (b5_0 : Int) (b5_1 : List (List AV)) (b5_4 : Int) (b7 : List (List AV)) (b8 : List (List AV)) : Int := vev24_0 b5_0 Tk.imm (rn5_8_15 t1 t2 t10 b5_0 b5_1 b5_4 b7 b8)
noncomputable def rn5_8_21 (t1 : List (List AV)) (t2 : List (List AV)) (t10 : Int) (b5_0 : Int) (b5_1 : List (List AV)) (b5_4 : Int) (b7 : List (List AV)) (b8 : List (List AV)) : sl5_29 := finL (g5_29 (t1, t2, t10, b5_0, rn5_8_15 t1 t2 t10 b5_0 b5_1 b5_4 b7 b8, b5_0, rn5_8_15 t1 t2 t10 b5_0 b5_1 b5_4 b7 b8, b5_4, b7, b8)) (n5_29 (t1, t2, t10, b5_0, rn5_8_15 t1 t2 t10 b5_0 b5_1 b5_4 b7 b8, b5_0, rn5_8_15 t1 t2 t10 b5_0 b5_1 b5_4 b7 b8, b5_4, b7, b8)) (0 : Int)
noncomputable def rn5_8_22 (t1 : List (List AV)) (t2 : List (List AV)) (t10 : Int) (b5_0 : Int) (b5_1 : List (List AV)) (b5_4 : Int) (b7 : List (List AV)) (b8 : List (List AV)) : Int := vev10_1 b5_0 b5_1 (rn5_8_1 t1 t2 t10 b5_0 b5_1 b5_4 b7 b8) (Int.tmod (0 : Int) (8 : Int)) (rn5_8_3 t1 t2 t10 b5_0 b5_1 b5_4 b7 b8)
noncomputable def rn5_8_23 (t1 : List (List AV)) (t2 : List (List AV)) (t10 : Int) (b5_0 : Int) (b5_1 : List (List AV)) (b5_4 : Int) (b7 : List (List AV)) (b8 : List (List AV)) : Int := vev14_5 b5_0 b5_1 (IntKind.i64.wrap ((1 : Int) + Int.tmod (0 : Int) (9 : Int)))
noncomputable def rn5_8_24 (t1 : List (List AV)) (t2 : List (List AV)) (t10 : Int) (b5_0 : Int) (b5_1 : List (List AV)) (b5_4 : Int) (b7 : List (List AV)) (b8 : List (List AV)) : Int := vev14_1 b5_0 b5_1 (IntKind.i64.wrap ((1 : Int) + Int.tmod (0 : Int) (9 : Int)))
noncomputable def rn5_8_25 (t1 : List (List AV)) (t2 : List (List AV)) (t10 : Int) (b5_0 : Int) (b5_1 : List (List AV)) (b5_4 : Int) (b7 : List (List AV)) (b8 : List (List AV)) : Int := IntKind.i64.wrap (rn5_8_24 t1 t2 t10 b5_0 b5_1 b5_4 b7 b8 - (1 : Int))
noncomputable def rn5_8_26 (t1 : List (List AV)) (t2 : List (List AV)) (t10 : Int) (b5_0 : Int) (b5_1 : List (List AV)) (b5_4 : Int) (b7 : List (List AV)) (b8 : List (List AV)) : List (List AV) := b8.set (rn5_8_25 t1 t2 t10 b5_0 b5_1 b5_4 b7 b8).toNat [AV.int IntKind.i64 (IntKind.i64.wrap (intOf ((b8.getD (rn5_8_25 t1 t2 t10 b5_0 b5_1 b5_4 b7 b8).toNat []).getD (0 : Nat) AV.junk) + rn5_8_23 t1 t2 t10 b5_0 b5_1 b5_4 b7 b8))]
noncomputable def rn5_8_27 (t1 : List (List AV)) (t2 : List (List AV)) (t10 : Int) (b5_0 : Int) (b5_1 : List (List AV)) (b5_4 : Int) (b7 : List (List AV)) (b8 : List (List AV)) : Int := (↑(rn5_8_26 t1 t2 t10 b5_0 b5_1 b5_4 b7 b8).length : Int)
noncomputable def rn5_8_28 (t1 : List (List AV)) (t2 : List (List AV)) (t10 : Int) (b5_0 : Int) (b5_1 : List (List AV)) (b5_4 : Int) (b7 : List (List AV)) (b8 : List (List AV)) : Int := vev14_3 b5_0 b5_1 (IntKind.i64.wrap ((1 : Int) + Int.tmod (0 : Int) (9 : Int)))
noncomputable def rn5_8_29 (t1 : List (List AV)) (t2 : List (List AV)) (t10 : Int) (b5_0 : Int) (b5_1 : List (List AV)) (b5_4 : Int) (b7 : List (List AV)) (b8 : List (List AV)) : Int := IntKind.i64.wrap (intOf (((rn5_8_26 t1 t2 t10 b5_0 b5_1 b5_4 b7 b8).getD (rn5_8_25 t1 t2 t10 b5_0 b5_1 b5_4 b7 b8).toNat []).getD (0 : Nat) AV.junk) + rn5_8_28 t1 t2 t10 b5_0 b5_1 b5_4 b7 b8)
noncomputable def rn5_8_30 (t1 : List (List AV)) (t2 : List (List AV)) (t10 : Int) (b5_0 : Int) (b5_1 : List (List AV)) (b5_4 : Int) (b7 : List (List AV)) (b8 : List (List AV)) : Int := intOf ((b7.getD (rn5_8_25 t1 t2 t10 b5_0 b5_1 b5_4 b7 b8).toNat []).getD (0 : Nat) AV.junk)
noncomputable def rn5_8_31 (t1 : List (List AV)) (t2 : List (List AV)) (t10 : Int) (b5_0 : Int) (b5_1 : List (List AV)) (b5_4 : Int) (b7 : List (List AV)) (b8 : List (List AV)) : List (List AV) := vev14_0 b5_0 b5_1 (IntKind.i64.wrap ((1 : Int) + Int.tmod (0 : Int) (9 : Int)))
noncomputable def rn5_8_32 (t1 : List (List AV)) (t2 : List (List AV)) (t10 : Int) (b5_0 : Int) (b5_1 : List (List AV)) (b5_4 : Int) (b7 : List (List AV)) (b8 : List (List AV)) : Int := (↑(rn5_8_31 t1 t2 t10 b5_0 b5_1 b5_4 b7 b8).length : Int)
noncomputable def rn5_8_33 (t1 : List (List AV)) (t2 : List (List AV)) (t10 : Int) (b5_0 : Int) (b5_1 : List (List AV)) (b5_4 : Int) (b7 : List (List AV)) (b8 : List (List AV)) : sl5_29 := finL (g5_29 (t1, t2, t10, b5_0, rn5_8_31 t1 t2 t10 b5_0 b5_1 b5_4 b7 b8, b5_0, rn5_8_31 t1 t2 t10 b5_0 b5_1 b5_4 b7 b8, b5_4, b7, rn5_8_26 t1 t2 t10 b5_0 b5_1 b5_4 b7 b8)) (n5_29 (t1, t2, t10, b5_0, rn5_8_31 t1 t2 t10 b5_0 b5_1 b5_4 b7 b8, b5_0, rn5_8_31 t1 t2 t10 b5_0 b5_1 b5_4 b7 b8, b5_4, b7, rn5_8_26 t1 t2 t10 b5_0 b5_1 b5_4 b7 b8)) (0 : Int)
noncomputable def rn5_8_34 (t1 : List (List AV)) (t2 : List (List AV)) (t10 : Int) (b5_0 : Int) (b5_1 : List (List AV)) (b5_4 : Int) (b7 : List (List AV)) (b8 : List (List AV)) : Int := rn5_29_0 t1 t2 t10 (rn5_8_33 t1 t2 t10 b5_0 b5_1 b5_4 b7 b8) b5_0 (rn5_8_31 t1 t2 t10 b5_0 b5_1 b5_4 b7 b8) b5_0 (rn5_8_31 t1 t2 t10 b5_0 b5_1 b5_4 b7 b8) b5_4 b7 (rn5_8_26 t1 t2 t10 b5_0 b5_1 b5_4 b7 b8)
noncomputable def rn5_8_35 (t1 : List (List AV)) (t2 : List (List AV)) (t10 : Int) (b5_0 : Int) (b5_1 : List (List AV)) (b5_4 : Int) (b7 : List (List AV)) (b8 : List (List AV)) : Int := vev24_0 b5_0 Tk.imm (rn5_8_31 t1 t2 t10 b5_0 b5_1 b5_4 b7 b8)
noncomputable def rn5_8_36 (t1 : List (List AV)) (t2 : List (List AV)) (t10 : Int) (b5_0 : Int) (b5_1 : List (List AV)) (b5_4 : Int) (b7 : List (List AV)) (b8 : List (List AV)) : sl5_29 := finL (g5_29 (t1, t2, t10, b5_0, rn5_8_31 t1 t2 t10 b5_0 b5_1 b5_4 b7 b8, b5_0, rn5_8_31 t1 t2 t10 b5_0 b5_1 b5_4 b7 b8, b5_4, b7, b8)) (n5_29 (t1, t2, t10, b5_0, rn5_8_31 t1 t2 t10 b5_0 b5_1 b5_4 b7 b8, b5_0, rn5_8_31 t1 t2 t10 b5_0 b5_1 b5_4 b7 b8, b5_4, b7, b8)) (0 : Int)
noncomputable def go5_8 (t1 : List (List AV)) (t2 : List (List AV)) (t10 : Int) (b5_0 : Int) (b5_1 : List (List AV)) (b5_4 : Int) (b7 : List (List AV)) (b8 : List (List AV)) : Bool := bif decide (t10 < (↑t2.length : Int)) then bif decide (t10 < (↑t1.length : Int)) then bif decide ((0 : Int) ≤ t10) && decide (t10 < (↑t1.length : Int)) then bif decide ((0 : Int) ≤ t10) && decide (t10 < (↑t2.length : Int)) then bif decide (rn5_8_0 t1 t2 t10 b5_0 b5_1 b5_4 b7 b8 > (0 : Int)) then bif vev10_2 b5_0 b5_1 (rn5_8_1 t1 t2 t10 b5_0 b5_1 b5_4 b7 b8) (rn5_8_2 t1 t2 t10 b5_0 b5_1 b5_4 b7 b8) (rn5_8_3 t1 t2 t10 b5_0 b5_1 b5_4 b7 b8) then bif bif rn5_8_4 t1 t2 t10 b5_0 b5_1 b5_4 b7 b8 != (0 : Int) then bif rn5_8_4 t1 t2 t10 b5_0 b5_1 b5_4 b7 b8 != (7 : Int) then true else decide ((↑b5_1.length : Int) < (16 : Int)) else false then false else bif rn5_8_4 t1 t2 t10 b5_0 b5_1 b5_4 b7 b8 == (0 : Int) then bif bif decide ((b7.length + (rn5_8_5 t1 t2 t10 b5_0 b5_1 b5_4 b7 b8).length) * (8 : Nat) ≤ (140737488355328 : Nat)) then decide (b7.length + (rn5_8_5 t1 t2 t10 b5_0 b5_1 b5_4 b7 b8).length ≤ (9223372036854775807 : Nat)) else false then bif decide ((b8.length + [[AV.int IntKind.i64 (0 : Int)]].length) * (8 : Nat) ≤ (140737488355328 : Nat)) then decide (b8.length + [[AV.int IntKind.i64 (0 : Int)]].length ≤ (9223372036854775807 : Nat)) else false else false else true else false else bif vev14_6 b5_0 b5_1 (rn5_8_6 t1 t2 t10 b5_0 b5_1 b5_4 b7 b8) then bif bif !(rn5_8_7 t1 t2 t10 b5_0 b5_1 b5_4 b7 b8 == (0 : Int)) == ((↑b5_1.length : Int) == (0 : Int)) then true else bif decide (rn5_8_7 t1 t2 t10 b5_0 b5_1 b5_4 b7 b8 > rn5_8_6 t1 t2 t10 b5_0 b5_1 b5_4 b7 b8) then true else bif decide (rn5_8_7 t1 t2 t10 b5_0 b5_1 b5_4 b7 b8 > (0 : Int)) then bif decide (rn5_8_8 t1 t2 t10 b5_0 b5_1 b5_4 b7 b8 < (1 : Int)) then true else decide (rn5_8_8 t1 t2 t10 b5_0 b5_1 b5_4 b7 b8 > (↑b8.length : Int)) else false then false else bif decide (rn5_8_7 t1 t2 t10 b5_0 b5_1 b5_4 b7 b8 > (0 : Int)) then bif decide ((0 : Int) ≤ rn5_8_9 t1 t2 t10 b5_0 b5_1 b5_4 b7 b8) && decide (rn5_8_9 t1 t2 t10 b5_0 b5_1 b5_4 b7 b8 < (↑b8.length : Int)) then bif bif bif decide ((0 : Int) ≤ rn5_8_9 t1 t2 t10 b5_0 b5_1 b5_4 b7 b8) then decide (rn5_8_9 t1 t2 t10 b5_0 b5_1 b5_4 b7 b8 < rn5_8_11 t1 t2 t10 b5_0 b5_1 b5_4 b7 b8) else false then decide ((0 : Int) ≤ rn5_8_9 t1 t2 t10 b5_0 b5_1 b5_4 b7 b8) && decide (rn5_8_9 t1 t2 t10 b5_0 b5_1 b5_4 b7 b8 < (↑b7.length : Int)) else false then bif bif bif decide ((0 : Int) ≤ rn5_8_9 t1 t2 t10 b5_0 b5_1 b5_4 b7 b8) then decide (rn5_8_9 t1 t2 t10 b5_0 b5_1 b5_4 b7 b8 < rn5_8_11 t1 t2 t10 b5_0 b5_1 b5_4 b7 b8) else false then bif decide ((0 : Int) ≤ rn5_8_9 t1 t2 t10 b5_0 b5_1 b5_4 b7 b8) && decide (rn5_8_9 t1 t2 t10 b5_0 b5_1 b5_4 b7 b8 < (↑b7.length : Int)) then bif bif decide (rn5_8_13 t1 t2 t10 b5_0 b5_1 b5_4 b7 b8 = rn5_8_14 t1 t2 t10 b5_0 b5_1 b5_4 b7 b8) then false else true then true else !(rn5_8_12 t1 t2 t10 b5_0 b5_1 b5_4 b7 b8 == (0 : Int)) == (rn5_8_16 t1 t2 t10 b5_0 b5_1 b5_4 b7 b8 == rn5_8_17 t1 t2 t10 b5_0 b5_1 b5_4 b7 b8) else false else false then false else bif (spI g5_29 n5_29 y5_29 z5_29 d5_29 ((t1, t2, t10, b5_0, rn5_8_15 t1 t2 t10 b5_0 b5_1 b5_4 b7 b8, b5_0, rn5_8_15 t1 t2 t10 b5_0 b5_1 b5_4 b7 b8, b5_4, b7, rn5_8_10 t1 t2 t10 b5_0 b5_1 b5_4 b7 b8), (0 : Int))).fst then bif bif decide (rn5_8_18 t1 t2 t10 b5_0 b5_1 b5_4 b7 b8 < rn5_8_16 t1 t2 t10 b5_0 b5_1 b5_4 b7 b8) then bif bif decide ((0 : Int) ≤ rn5_8_18 t1 t2 t10 b5_0 b5_1 b5_4 b7 b8) then decide (rn5_8_18 t1 t2 t10 b5_0 b5_1 b5_4 b7 b8 < rn5_8_16 t1 t2 t10 b5_0 b5_1 b5_4 b7 b8) else false then decide (rn5_8_19 t1 t2 t10 b5_0 b5_1 b5_4 b7 b8 > b5_4) else false else false then false else bif vev24_1 b5_0 Tk.imm (rn5_8_15 t1 t2 t10 b5_0 b5_1 b5_4 b7 b8) then bif bif decide (rn5_8_20 t1 t2 t10 b5_0 b5_1 b5_4 b7 b8 = (0 : Int)) then false else true then false else true else false else false else false else false else bif (spI g5_29 n5_29 y5_29 z5_29 d5_29 ((t1, t2, t10, b5_0, rn5_8_15 t1 t2 t10 b5_0 b5_1 b5_4 b7 b8, b5_0, rn5_8_15 t1 t2 t10 b5_0 b5_1 b5_4 b7 b8, b5_4, b7, b8), (0 : Int))).fst then bif xc5_29_0 t1 t2 t10 (rn5_8_21 t1 t2 t10 b5_0 b5_1 b5_4 b7 b8) b5_0 (rn5_8_15 t1 t2 t10 b5_0 b5_1 b5_4 b7 b8) b5_0 (rn5_8_15 t1 t2 t10 b5_0 b5_1 b5_4 b7 b8) b5_4 b7 b8 then false else bif vev24_1 b5_0 Tk.imm (rn5_8_15 t1 t2 t10 b5_0 b5_1 b5_4 b7 b8) then bif rn5_8_20 t1 t2 t10 b5_0 b5_1 b5_4 b7 b8 != (0 : Int) then false else true else false else false else false else false else false else bif decide ((0 : Int) ≤ t10) && decide (t10 < (↑t2.length : Int)) then bif decide (rn5_8_0 t1 t2 t10 b5_0 b5_1 b5_4 b7 b8 > (0 : Int)) then bif vev10_2 b5_0 b5_1 (rn5_8_1 t1 t2 t10 b5_0 b5_1 b5_4 b7 b8) (Int.tmod (0 : Int) (8 : Int)) (rn5_8_3 t1 t2 t10 b5_0 b5_1 b5_4 b7 b8) then bif bif rn5_8_22 t1 t2 t10 b5_0 b5_1 b5_4 b7 b8 != (0 : Int) then bif rn5_8_22 t1 t2 t10 b5_0 b5_1 b5_4 b7 b8 != (7 : Int) then true else decide ((↑b5_1.length : Int) < (16 : Int)) else false then false else bif rn5_8_22 t1 t2 t10 b5_0 b5_1 b5_4 b7 b8 == (0 : Int) then bif bif decide ((b7.length + (rn5_8_5 t1 t2 t10 b5_0 b5_1 b5_4 b7 b8).length) * (8 : Nat) ≤ (140737488355328 : Nat)) then decide (b7.length + (rn5_8_5 t1 t2 t10 b5_0 b5_1 b5_4 b7 b8).length ≤ (9223372036854775807 : Nat)) else false then bif decide ((b8.length + [[AV.int IntKind.i64 (0 : Int)]].length) * (8 : Nat) ≤ (140737488355328 : Nat)) then decide (b8.length + [[AV.int IntKind.i64 (0 : Int)]].length ≤ (9223372036854775807 : Nat)) else false else false else true else false else bif vev14_6 b5_0 b5_1 (IntKind.i64.wrap ((1 : Int) + Int.tmod (0 : Int) (9 : Int))) then bif bif !(rn5_8_23 t1 t2 t10 b5_0 b5_1 b5_4 b7 b8 == (0 : Int)) == ((↑b5_1.length : Int) == (0 : Int)) then true else bif decide (rn5_8_23 t1 t2 t10 b5_0 b5_1 b5_4 b7 b8 > IntKind.i64.wrap ((1 : Int) + Int.tmod (0 : Int) (9 : Int))) then true else bif decide (rn5_8_23 t1 t2 t10 b5_0 b5_1 b5_4 b7 b8 > (0 : Int)) then bif decide (rn5_8_24 t1 t2 t10 b5_0 b5_1 b5_4 b7 b8 < (1 : Int)) then true else decide (rn5_8_24 t1 t2 t10 b5_0 b5_1 b5_4 b7 b8 > (↑b8.length : Int)) else false then false else bif decide (rn5_8_23 t1 t2 t10 b5_0 b5_1 b5_4 b7 b8 > (0 : Int)) then bif decide ((0 : Int) ≤ rn5_8_25 t1 t2 t10 b5_0 b5_1 b5_4 b7 b8) && decide (rn5_8_25 t1 t2 t10 b5_0 b5_1 b5_4 b7 b8 < (↑b8.length : Int)) then bif bif bif decide ((0 : Int) ≤ rn5_8_25 t1 t2 t10 b5_0 b5_1 b5_4 b7 b8) then decide (rn5_8_25 t1 t2 t10 b5_0 b5_1 b5_4 b7 b8 < rn5_8_27 t1 t2 t10 b5_0 b5_1 b5_4 b7 b8) else false then decide ((0 : Int) ≤ rn5_8_25 t1 t2 t10 b5_0 b5_1 b5_4 b7 b8) && decide (rn5_8_25 t1 t2 t10 b5_0 b5_1 b5_4 b7 b8 < (↑b7.length : Int)) else false then bif bif bif decide ((0 : Int) ≤ rn5_8_25 t1 t2 t10 b5_0 b5_1 b5_4 b7 b8) then decide (rn5_8_25 t1 t2 t10 b5_0 b5_1 b5_4 b7 b8 < rn5_8_27 t1 t2 t10 b5_0 b5_1 b5_4 b7 b8) else false then bif decide ((0 : Int) ≤ rn5_8_25 t1 t2 t10 b5_0 b5_1 b5_4 b7 b8) && decide (rn5_8_25 t1 t2 t10 b5_0 b5_1 b5_4 b7 b8 < (↑b7.length : Int)) then bif bif decide (rn5_8_29 t1 t2 t10 b5_0 b5_1 b5_4 b7 b8 = rn5_8_30 t1 t2 t10 b5_0 b5_1 b5_4 b7 b8) then false else true then true else !(rn5_8_28 t1 t2 t10 b5_0 b5_1 b5_4 b7 b8 == (0 : Int)) == (rn5_8_32 t1 t2 t10 b5_0 b5_1 b5_4 b7 b8 == rn5_8_17 t1 t2 t10 b5_0 b5_1 b5_4 b7 b8) else false else false then false else bif (spI g5_29 n5_29 y5_29 z5_29 d5_29 ((t1, t2, t10, b5_0, rn5_8_31 t1 t2 t10 b5_0 b5_1 b5_4 b7 b8, b5_0, rn5_8_31 t1 t2 t10 b5_0 b5_1 b5_4 b7 b8, b5_4, b7, rn5_8_26 t1 t2 t10 b5_0 b5_1 b5_4 b7 b8), (0 : Int))).fst then bif bif decide (rn5_8_33 t1 t2 t10 b5_0 b5_1 b5_4 b7 b8 < rn5_8_32 t1 t2 t10 b5_0 b5_1 b5_4 b7 b8) then bif bif decide ((0 : Int) ≤ rn5_8_33 t1 t2 t10 b5_0 b5_1 b5_4 b7 b8) then decide (rn5_8_33 t1 t2 t10 b5_0 b5_1 b5_4 b7 b8 < rn5_8_32 t1 t2 t10 b5_0 b5_1 b5_4 b7 b8) else false then decide (rn5_8_34 t1 t2 t10 b5_0 b5_1 b5_4 b7 b8 > b5_4) else false else false then false else bif vev24_1 b5_0 Tk.imm (rn5_8_31 t1 t2 t10 b5_0 b5_1 b5_4 b7 b8) then bif bif decide (rn5_8_35 t1 t2 t10 b5_0 b5_1 b5_4 b7 b8 = (0 : Int)) then false else true then false else true else false else false else false else false else bif (spI g5_29 n5_29 y5_29 z5_29 d5_29 ((t1, t2, t10, b5_0, rn5_8_31 t1 t2 t10 b5_0 b5_1 b5_4 b7 b8, b5_0, rn5_8_31 t1 t2 t10 b5_0 b5_1 b5_4 b7 b8, b5_4, b7, b8), (0 : Int))).fst then bif xc5_29_0 t1 t2 t10 (rn5_8_36 t1 t2 t10 b5_0 b5_1 b5_4 b7 b8) b5_0 (rn5_8_31 t1 t2 t10 b5_0 b5_1 b5_4 b7 b8) b5_0 (rn5_8_31 t1 t2 t10 b5_0 b5_1 b5_4 b7 b8) b5_4 b7 b8 then false else bif vev24_1 b5_0 Tk.imm (rn5_8_31 t1 t2 t10 b5_0 b5_1 b5_4 b7 b8) then bif rn5_8_35 t1 t2 t10 b5_0 b5_1 b5_4 b7 b8 != (0 : Int) then false else true else false else false else false else false else false
noncomputable def nx5_8_2 (t1 : List (List AV)) (t2 : List (List AV)) (t10 : Int) (b5_0 : Int) (b5_1 : List (List AV)) (b5_4 : Int) (b7 : List (List AV)) (b8 : List (List AV)) : Int := IntKind.i64.wrap (t10 + (1 : Int))
noncomputable def nx5_8_4 (t1 : List (List AV)) (t2 : List (List AV)) (t10 : Int) (b5_0 : Int) (b5_1 : List (List AV)) (b5_4 : Int) (b7 : List (List AV)) (b8 : List (List AV)) : List (List AV) := bif decide (t10 < (↑t1.length : Int)) then bif decide (rn5_8_0 t1 t2 t10 b5_0 b5_1 b5_4 b7 b8 > (0 : Int)) then vev10_0 b5_0 b5_1 (rn5_8_1 t1 t2 t10 b5_0 b5_1 b5_4 b7 b8) (rn5_8_2 t1 t2 t10 b5_0 b5_1 b5_4 b7 b8) (rn5_8_3 t1 t2 t10 b5_0 b5_1 b5_4 b7 b8) else rn5_8_15 t1 t2 t10 b5_0 b5_1 b5_4 b7 b8 else bif decide (rn5_8_0 t1 t2 t10 b5_0 b5_1 b5_4 b7 b8 > (0 : Int)) then vev10_0 b5_0 b5_1 (rn5_8_1 t1 t2 t10 b5_0 b5_1 b5_4 b7 b8) (Int.tmod (0 : Int) (8 : Int)) (rn5_8_3 t1 t2 t10 b5_0 b5_1 b5_4 b7 b8) else rn5_8_31 t1 t2 t10 b5_0 b5_1 b5_4 b7 b8
noncomputable def nx5_8_6 (t1 : List (List AV)) (t2 : List (List AV)) (t10 : Int) (b5_0 : Int) (b5_1 : List (List AV)) (b5_4 : Int) (b7 : List (List AV)) (b8 : List (List AV)) : List (List AV) := bif decide (t10 < (↑t1.length : Int)) then bif decide (rn5_8_0 t1 t2 t10 b5_0 b5_1 b5_4 b7 b8 > (0 : Int)) then bif rn5_8_4 t1 t2 t10 b5_0 b5_1 b5_4 b7 b8 == (0 : Int) then b7 ++ rn5_8_5 t1 t2 t10 b5_0 b5_1 b5_4 b7 b8 else b7 else b7 else bif decide (rn5_8_0 t1 t2 t10 b5_0 b5_1 b5_4 b7 b8 > (0 : Int)) then bif rn5_8_22 t1 t2 t10 b5_0 b5_1 b5_4 b7 b8 == (0 : Int) then b7 ++ rn5_8_5 t1 t2 t10 b5_0 b5_1 b5_4 b7 b8 else b7 else b7
noncomputable def nx5_8_7 (t1 : List (List AV)) (t2 : List (List AV)) (t10 : Int) (b5_0 : Int) (b5_1 : List (List AV)) (b5_4 : Int) (b7 : List (List AV)) (b8 : List (List AV)) : List (List AV) := bif decide (t10 < (↑t1.length : Int)) then bif decide (rn5_8_0 t1 t2 t10 b5_0 b5_1 b5_4 b7 b8 > (0 : Int)) then bif rn5_8_4 t1 t2 t10 b5_0 b5_1 b5_4 b7 b8 == (0 : Int) then b8 ++ [[AV.int IntKind.i64 (0 : Int)]] else b8 else bif decide (rn5_8_7 t1 t2 t10 b5_0 b5_1 b5_4 b7 b8 > (0 : Int)) then rn5_8_10 t1 t2 t10 b5_0 b5_1 b5_4 b7 b8 else b8 else bif decide (rn5_8_0 t1 t2 t10 b5_0 b5_1 b5_4 b7 b8 > (0 : Int)) then bif rn5_8_22 t1 t2 t10 b5_0 b5_1 b5_4 b7 b8 == (0 : Int) then b8 ++ [[AV.int IntKind.i64 (0 : Int)]] else b8 else bif decide (rn5_8_23 t1 t2 t10 b5_0 b5_1 b5_4 b7 b8 > (0 : Int)) then rn5_8_26 t1 t2 t10 b5_0 b5_1 b5_4 b7 b8 else b8
noncomputable def xc5_8_0 (t1 : List (List AV)) (t2 : List (List AV)) (t10 : Int) (b5_0 : Int) (b5_1 : List (List AV)) (b5_4 : Int) (b7 : List (List AV)) (b8 : List (List AV)) : Bool := bif decide (t10 < (↑t2.length : Int)) then bif decide (t10 < (↑t1.length : Int)) then bif decide ((0 : Int) ≤ t10) && decide (t10 < (↑t1.length : Int)) then bif decide ((0 : Int) ≤ t10) && decide (t10 < (↑t2.length : Int)) then bif decide (rn5_8_0 t1 t2 t10 b5_0 b5_1 b5_4 b7 b8 > (0 : Int)) then bif vev10_2 b5_0 b5_1 (rn5_8_1 t1 t2 t10 b5_0 b5_1 b5_4 b7 b8) (rn5_8_2 t1 t2 t10 b5_0 b5_1 b5_4 b7 b8) (rn5_8_3 t1 t2 t10 b5_0 b5_1 b5_4 b7 b8) then bif rn5_8_4 t1 t2 t10 b5_0 b5_1 b5_4 b7 b8 != (0 : Int) then bif rn5_8_4 t1 t2 t10 b5_0 b5_1 b5_4 b7 b8 != (7 : Int) then true else decide ((↑b5_1.length : Int) < (16 : Int)) else false else false else bif vev14_6 b5_0 b5_1 (rn5_8_6 t1 t2 t10 b5_0 b5_1 b5_4 b7 b8) then bif bif !(rn5_8_7 t1 t2 t10 b5_0 b5_1 b5_4 b7 b8 == (0 : Int)) == ((↑b5_1.length : Int) == (0 : Int)) then true else bif decide (rn5_8_7 t1 t2 t10 b5_0 b5_1 b5_4 b7 b8 > rn5_8_6 t1 t2 t10 b5_0 b5_1 b5_4 b7 b8) then true else bif decide (rn5_8_7 t1 t2 t10 b5_0 b5_1 b5_4 b7 b8 > (0 : Int)) then bif decide (rn5_8_8 t1 t2 t10 b5_0 b5_1 b5_4 b7 b8 < (1 : Int)) then true else decide (rn5_8_8 t1 t2 t10 b5_0 b5_1 b5_4 b7 b8 > (↑b8.length : Int)) else false then true else bif decide (rn5_8_7 t1 t2 t10 b5_0 b5_1 b5_4 b7 b8 > (0 : Int)) then bif decide ((0 : Int) ≤ rn5_8_9 t1 t2 t10 b5_0 b5_1 b5_4 b7 b8) && decide (rn5_8_9 t1 t2 t10 b5_0 b5_1 b5_4 b7 b8 < (↑b8.length : Int)) then bif bif bif decide ((0 : Int) ≤ rn5_8_9 t1 t2 t10 b5_0 b5_1 b5_4 b7 b8) then decide (rn5_8_9 t1 t2 t10 b5_0 b5_1 b5_4 b7 b8 < rn5_8_11 t1 t2 t10 b5_0 b5_1 b5_4 b7 b8) else false then decide ((0 : Int) ≤ rn5_8_9 t1 t2 t10 b5_0 b5_1 b5_4 b7 b8) && decide (rn5_8_9 t1 t2 t10 b5_0 b5_1 b5_4 b7 b8 < (↑b7.length : Int)) else false then bif bif bif decide ((0 : Int) ≤ rn5_8_9 t1 t2 t10 b5_0 b5_1 b5_4 b7 b8) then decide (rn5_8_9 t1 t2 t10 b5_0 b5_1 b5_4 b7 b8 < rn5_8_11 t1 t2 t10 b5_0 b5_1 b5_4 b7 b8) else false then bif decide ((0 : Int) ≤ rn5_8_9 t1 t2 t10 b5_0 b5_1 b5_4 b7 b8) && decide (rn5_8_9 t1 t2 t10 b5_0 b5_1 b5_4 b7 b8 < (↑b7.length : Int)) then bif bif decide (rn5_8_13 t1 t2 t10 b5_0 b5_1 b5_4 b7 b8 = rn5_8_14 t1 t2 t10 b5_0 b5_1 b5_4 b7 b8) then false else true then true else !(rn5_8_12 t1 t2 t10 b5_0 b5_1 b5_4 b7 b8 == (0 : Int)) == (rn5_8_16 t1 t2 t10 b5_0 b5_1 b5_4 b7 b8 == rn5_8_17 t1 t2 t10 b5_0 b5_1 b5_4 b7 b8) else false else false then true else bif (spI g5_29 n5_29 y5_29 z5_29 d5_29 ((t1, t2, t10, b5_0, rn5_8_15 t1 t2 t10 b5_0 b5_1 b5_4 b7 b8, b5_0, rn5_8_15 t1 t2 t10 b5_0 b5_1 b5_4 b7 b8, b5_4, b7, rn5_8_10 t1 t2 t10 b5_0 b5_1 b5_4 b7 b8), (0 : Int))).fst then bif bif decide (rn5_8_18 t1 t2 t10 b5_0 b5_1 b5_4 b7 b8 < rn5_8_16 t1 t2 t10 b5_0 b5_1 b5_4 b7 b8) then bif bif decide ((0 : Int) ≤ rn5_8_18 t1 t2 t10 b5_0 b5_1 b5_4 b7 b8) then decide (rn5_8_18 t1 t2 t10 b5_0 b5_1 b5_4 b7 b8 < rn5_8_16 t1 t2 t10 b5_0 b5_1 b5_4 b7 b8) else false then decide (rn5_8_19 t1 t2 t10 b5_0 b5_1 b5_4 b7 b8 > b5_4) else false else false then true else bif vev24_1 b5_0 Tk.imm (rn5_8_15 t1 t2 t10 b5_0 b5_1 b5_4 b7 b8) then bif decide (rn5_8_20 t1 t2 t10 b5_0 b5_1 b5_4 b7 b8 = (0 : Int)) then false else true else false else false else false else false else bif (spI g5_29 n5_29 y5_29 z5_29 d5_29 ((t1, t2, t10, b5_0, rn5_8_15 t1 t2 t10 b5_0 b5_1 b5_4 b7 b8, b5_0, rn5_8_15 t1 t2 t10 b5_0 b5_1 b5_4 b7 b8, b5_4, b7, b8), (0 : Int))).fst then bif xc5_29_0 t1 t2 t10 (rn5_8_21 t1 t2 t10 b5_0 b5_1 b5_4 b7 b8) b5_0 (rn5_8_15 t1 t2 t10 b5_0 b5_1 b5_4 b7 b8) b5_0 (rn5_8_15 t1 t2 t10 b5_0 b5_1 b5_4 b7 b8) b5_4 b7 b8 then true else bif vev24_1 b5_0 Tk.imm (rn5_8_15 t1 t2 t10 b5_0 b5_1 b5_4 b7 b8) then rn5_8_20 t1 t2 t10 b5_0 b5_1 b5_4 b7 b8 != (0 : Int) else false else false else false else false else false else bif decide ((0 : Int) ≤ t10) && decide (t10 < (↑t2.length : Int)) then bif decide (rn5_8_0 t1 t2 t10 b5_0 b5_1 b5_4 b7 b8 > (0 : Int)) then bif vev10_2 b5_0 b5_1 (rn5_8_1 t1 t2 t10 b5_0 b5_1 b5_4 b7 b8) (Int.tmod (0 : Int) (8 : Int)) (rn5_8_3 t1 t2 t10 b5_0 b5_1 b5_4 b7 b8) then bif rn5_8_22 t1 t2 t10 b5_0 b5_1 b5_4 b7 b8 != (0 : Int) then bif rn5_8_22 t1 t2 t10 b5_0 b5_1 b5_4 b7 b8 != (7 : Int) then true else decide ((↑b5_1.length : Int) < (16 : Int)) else false else false else bif vev14_6 b5_0 b5_1 (IntKind.i64.wrap ((1 : Int) + Int.tmod (0 : Int) (9 : Int))) then bif bif !(rn5_8_23 t1 t2 t10 b5_0 b5_1 b5_4 b7 b8 == (0 : Int)) == ((↑b5_1.length : Int) == (0 : Int)) then true else bif decide (rn5_8_23 t1 t2 t10 b5_0 b5_1 b5_4 b7 b8 > IntKind.i64.wrap ((1 : Int) + Int.tmod (0 : Int) (9 : Int))) then true else bif decide (rn5_8_23 t1 t2 t10 b5_0 b5_1 b5_4 b7 b8 > (0 : Int)) then bif decide (rn5_8_24 t1 t2 t10 b5_0 b5_1 b5_4 b7 b8 < (1 : Int)) then true else decide (rn5_8_24 t1 t2 t10 b5_0 b5_1 b5_4 b7 b8 > (↑b8.length : Int)) else false then true else bif decide (rn5_8_23 t1 t2 t10 b5_0 b5_1 b5_4 b7 b8 > (0 : Int)) then bif decide ((0 : Int) ≤ rn5_8_25 t1 t2 t10 b5_0 b5_1 b5_4 b7 b8) && decide (rn5_8_25 t1 t2 t10 b5_0 b5_1 b5_4 b7 b8 < (↑b8.length : Int)) then bif bif bif decide ((0 : Int) ≤ rn5_8_25 t1 t2 t10 b5_0 b5_1 b5_4 b7 b8) then decide (rn5_8_25 t1 t2 t10 b5_0 b5_1 b5_4 b7 b8 < rn5_8_27 t1 t2 t10 b5_0 b5_1 b5_4 b7 b8) else false then decide ((0 : Int) ≤ rn5_8_25 t1 t2 t10 b5_0 b5_1 b5_4 b7 b8) && decide (rn5_8_25 t1 t2 t10 b5_0 b5_1 b5_4 b7 b8 < (↑b7.length : Int)) else false then bif bif bif decide ((0 : Int) ≤ rn5_8_25 t1 t2 t10 b5_0 b5_1 b5_4 b7 b8) then decide (rn5_8_25 t1 t2 t10 b5_0 b5_1 b5_4 b7 b8 < rn5_8_27 t1 t2 t10 b5_0 b5_1 b5_4 b7 b8) else false then bif decide ((0 : Int) ≤ rn5_8_25 t1 t2 t10 b5_0 b5_1 b5_4 b7 b8) && decide (rn5_8_25 t1 t2 t10 b5_0 b5_1 b5_4 b7 b8 < (↑b7.length : Int)) then bif bif decide (rn5_8_29 t1 t2 t10 b5_0 b5_1 b5_4 b7 b8 = rn5_8_30 t1 t2 t10 b5_0 b5_1 b5_4 b7 b8) then false else true then true else !(rn5_8_28 t1 t2 t10 b5_0 b5_1 b5_4 b7 b8 == (0 : Int)) == (rn5_8_32 t1 t2 t10 b5_0 b5_1 b5_4 b7 b8 == rn5_8_17 t1 t2 t10 b5_0 b5_1 b5_4 b7 b8) else false else false then true else bif (spI g5_29 n5_29 y5_29 z5_29 d5_29 ((t1, t2, t10, b5_0, rn5_8_31 t1 t2 t10 b5_0 b5_1 b5_4 b7 b8, b5_0, rn5_8_31 t1 t2 t10 b5_0 b5_1 b5_4 b7 b8, b5_4, b7, rn5_8_26 t1 t2 t10 b5_0 b5_1 b5_4 b7 b8), (0 : Int))).fst then bif bif decide (rn5_8_33 t1 t2 t10 b5_0 b5_1 b5_4 b7 b8 < rn5_8_32 t1 t2 t10 b5_0 b5_1 b5_4 b7 b8) then bif bif decide ((0 : Int) ≤ rn5_8_33 t1 t2 t10 b5_0 b5_1 b5_4 b7 b8) then decide (rn5_8_33 t1 t2 t10 b5_0 b5_1 b5_4 b7 b8 < rn5_8_32 t1 t2 t10 b5_0 b5_1 b5_4 b7 b8) else false then decide (rn5_8_34 t1 t2 t10 b5_0 b5_1 b5_4 b7 b8 > b5_4) else false else false then true else bif vev24_1 b5_0 Tk.imm (rn5_8_31 t1 t2 t10 b5_0 b5_1 b5_4 b7 b8) then bif decide (rn5_8_35 t1 t2 t10 b5_0 b5_1 b5_4 b7 b8 = (0 : Int)) then false else true else false else false else false else false else bif (spI g5_29 n5_29 y5_29 z5_29 d5_29 ((t1, t2, t10, b5_0, rn5_8_31 t1 t2 t10 b5_0 b5_1 b5_4 b7 b8, b5_0, rn5_8_31 t1 t2 t10 b5_0 b5_1 b5_4 b7 b8, b5_4, b7, b8), (0 : Int))).fst then bif xc5_29_0 t1 t2 t10 (rn5_8_36 t1 t2 t10 b5_0 b5_1 b5_4 b7 b8) b5_0 (rn5_8_31 t1 t2 t10 b5_0 b5_1 b5_4 b7 b8) b5_0 (rn5_8_31 t1 t2 t10 b5_0 b5_1 b5_4 b7 b8) b5_4 b7 b8 then true else bif vev24_1 b5_0 Tk.imm (rn5_8_31 t1 t2 t10 b5_0 b5_1 b5_4 b7 b8) then rn5_8_35 t1 t2 t10 b5_0 b5_1 b5_4 b7 b8 != (0 : Int) else false else false else false else false else false
noncomputable def xc5_8_1 (t1 : List (List AV)) (t2 : List (List AV)) (t10 : Int) (b5_0 : Int) (b5_1 : List (List AV)) (b5_4 : Int) (b7 : List (List AV)) (b8 : List (List AV)) : Bool := bif decide (t10 < (↑t2.length : Int)) then false else true
theorem rd5_8 (rest : Lsp) (t1 : List (List AV)) (t2 : List (List AV)) (t10 : Int) (b5_0 : Int) (b5_1 : List (List AV)) (b5_4 : Int) (b7 : List (List AV)) (b8 : List (List AV)) : roundV (cfg Try.prog tab 100000 (gk k17 30) (selL 29 ls5_29 rest) 5 0 Try.f5.ntmps) (loopAt Try.f5 8) [1, 2, 9, 10] [2, 3, 5, 7, 8] [6] [] [AV.sl Tk.imm [Kd.int IntKind.u8] t1, AV.sl Tk.imm [Kd.int IntKind.u8] t2, AV.hp (nat_lit 5) (nat_lit 0), AV.int IntKind.i64 t10] [Blk.dead, Blk.dead, Blk.var [AV.int IntKind.i64 b5_0, AV.sl Tk.imm [Kd.int IntKind.i64, Kd.int IntKind.i64, Kd.int IntKind.i64, Kd.int IntKind.i64] b5_1, AV.rf (nat_lit 8) [Kd.int IntKind.i64], AV.rf (nat_lit 7) [Kd.int IntKind.i64], AV.int IntKind.i64 b5_4], Blk.row [Kd.int IntKind.i64] b7, Blk.row [Kd.int IntKind.i64] b8] = bif go5_8 t1 t2 t10 b5_0 b5_1 b5_4 b7 b8 then some (Ex.norm, [AV.sl Tk.imm [Kd.int IntKind.u8] t1, AV.sl Tk.imm [Kd.int IntKind.u8] t2, AV.hp (nat_lit 5) (nat_lit 0), AV.int IntKind.i64 (nx5_8_2 t1 t2 t10 b5_0 b5_1 b5_4 b7 b8)], [Blk.dead, Blk.dead, Blk.var [AV.int IntKind.i64 b5_0, AV.sl Tk.imm [Kd.int IntKind.i64, Kd.int IntKind.i64, Kd.int IntKind.i64, Kd.int IntKind.i64] (nx5_8_4 t1 t2 t10 b5_0 b5_1 b5_4 b7 b8), AV.rf (nat_lit 8) [Kd.int IntKind.i64], AV.rf (nat_lit 7) [Kd.int IntKind.i64], AV.int IntKind.i64 b5_4], Blk.row [Kd.int IntKind.i64] (nx5_8_6 t1 t2 t10 b5_0 b5_1 b5_4 b7 b8), Blk.row [Kd.int IntKind.i64] (nx5_8_7 t1 t2 t10 b5_0 b5_1 b5_4 b7 b8)]) else bif xc5_8_0 t1 t2 t10 b5_0 b5_1 b5_4 b7 b8 then some (Ex.ret, [AV.bool false], []) else bif xc5_8_1 t1 t2 t10 b5_0 b5_1 b5_4 b7 b8 then some (Ex.exit (nat_lit 0), [AV.junk], []) else none := by
  have h : roundV (cfg Try.prog tab 100000 (gk k17 30) (selL 29 ls5_29 rest) 5 0 Try.f5.ntmps) (loopAt Try.f5 8) [1, 2, 9, 10] [2, 3, 5, 7, 8] [6] [] [AV.sl Tk.imm [Kd.int IntKind.u8] t1, AV.sl Tk.imm [Kd.int IntKind.u8] t2, AV.hp (nat_lit 5) (nat_lit 0), AV.int IntKind.i64 t10] [Blk.dead, Blk.dead, Blk.var [AV.int IntKind.i64 b5_0, AV.sl Tk.imm [Kd.int IntKind.i64, Kd.int IntKind.i64, Kd.int IntKind.i64, Kd.int IntKind.i64] b5_1, AV.rf (nat_lit 8) [Kd.int IntKind.i64], AV.rf (nat_lit 7) [Kd.int IntKind.i64], AV.int IntKind.i64 b5_4], Blk.row [Kd.int IntKind.i64] b7, Blk.row [Kd.int IntKind.i64] b8] = bif decide (t10 < (↑t2.length : Int)) then bif decide (t10 < (↑t1.length : Int)) then bif decide ((0 : Int) ≤ t10) && decide (t10 < (↑t1.length : Int)) then bif decide ((0 : Int) ≤ t10) && decide (t10 < (↑t2.length : Int)) then bif decide (rn5_8_0 t1 t2 t10 b5_0 b5_1 b5_4 b7 b8 > (0 : Int)) then bif decide ((0 : Int) ≤ t10) && decide (t10 < (↑t2.length : Int)) then bif vev10_2 b5_0 b5_1 (rn5_8_1 t1 t2 t10 b5_0 b5_1 b5_4 b7 b8) (rn5_8_2 t1 t2 t10 b5_0 b5_1 b5_4 b7 b8) (rn5_8_3 t1 t2 t10 b5_0 b5_1 b5_4 b7 b8) then bif bif rn5_8_4 t1 t2 t10 b5_0 b5_1 b5_4 b7 b8 != (0 : Int) then bif rn5_8_4 t1 t2 t10 b5_0 b5_1 b5_4 b7 b8 != (7 : Int) then true else true else true then bif bif rn5_8_4 t1 t2 t10 b5_0 b5_1 b5_4 b7 b8 != (0 : Int) then bif rn5_8_4 t1 t2 t10 b5_0 b5_1 b5_4 b7 b8 != (7 : Int) then bif true then true else false else bif true then bif false then true else decide ((↑b5_1.length : Int) < (16 : Int)) else false else false then some (Ex.ret, [AV.bool false], []) else bif rn5_8_4 t1 t2 t10 b5_0 b5_1 b5_4 b7 b8 == (0 : Int) then bif decide ((0 : Int) ≤ t10) && decide (t10 < (↑t2.length : Int)) then bif bif decide ((b7.length + (rn5_8_5 t1 t2 t10 b5_0 b5_1 b5_4 b7 b8).length) * (8 : Nat) ≤ (140737488355328 : Nat)) then decide (b7.length + (rn5_8_5 t1 t2 t10 b5_0 b5_1 b5_4 b7 b8).length ≤ (9223372036854775807 : Nat)) else false then bif bif decide ((b8.length + [[AV.int IntKind.i64 (0 : Int)]].length) * (8 : Nat) ≤ (140737488355328 : Nat)) then decide (b8.length + [[AV.int IntKind.i64 (0 : Int)]].length ≤ (9223372036854775807 : Nat)) else false then some (Ex.norm, [AV.sl Tk.imm [Kd.int IntKind.u8] t1, AV.sl Tk.imm [Kd.int IntKind.u8] t2, AV.hp (nat_lit 5) (nat_lit 0), AV.int IntKind.i64 (IntKind.i64.wrap (t10 + (1 : Int)))], [Blk.dead, Blk.dead, Blk.var [AV.int IntKind.i64 b5_0, AV.sl Tk.imm [Kd.int IntKind.i64, Kd.int IntKind.i64, Kd.int IntKind.i64, Kd.int IntKind.i64] (vev10_0 b5_0 b5_1 (rn5_8_1 t1 t2 t10 b5_0 b5_1 b5_4 b7 b8) (rn5_8_2 t1 t2 t10 b5_0 b5_1 b5_4 b7 b8) (rn5_8_3 t1 t2 t10 b5_0 b5_1 b5_4 b7 b8)), AV.rf (nat_lit 8) [Kd.int IntKind.i64], AV.rf (nat_lit 7) [Kd.int IntKind.i64], AV.int IntKind.i64 b5_4], Blk.row [Kd.int IntKind.i64] (b7 ++ rn5_8_5 t1 t2 t10 b5_0 b5_1 b5_4 b7 b8), Blk.row [Kd.int IntKind.i64] (b8 ++ [[AV.int IntKind.i64 (0 : Int)]])]) else none else none else none else some (Ex.norm, [AV.sl Tk.imm [Kd.int IntKind.u8] t1, AV.sl Tk.imm [Kd.int IntKind.u8] t2, AV.hp (nat_lit 5) (nat_lit 0), AV.int IntKind.i64 (IntKind.i64.wrap (t10 + (1 : Int)))], [Blk.dead, Blk.dead, Blk.var [AV.int IntKind.i64 b5_0, AV.sl Tk.imm [Kd.int IntKind.i64, Kd.int IntKind.i64, Kd.int IntKind.i64, Kd.int IntKind.i64] (vev10_0 b5_0 b5_1 (rn5_8_1 t1 t2 t10 b5_0 b5_1 b5_4 b7 b8) (rn5_8_2 t1 t2 t10 b5_0 b5_1 b5_4 b7 b8) (rn5_8_3 t1 t2 t10 b5_0 b5_1 b5_4 b7 b8)), AV.rf (nat_lit 8) [Kd.int IntKind.i64], AV.rf (nat_lit 7) [Kd.int IntKind.i64], AV.int IntKind.i64 b5_4], Blk.row [Kd.int IntKind.i64] b7, Blk.row [Kd.int IntKind.i64] b8]) else none else none else none else bif vev14_6 b5_0 b5_1 (rn5_8_6 t1 t2 t10 b5_0 b5_1 b5_4 b7 b8) then bif bif !(rn5_8_7 t1 t2 t10 b5_0 b5_1 b5_4 b7 b8 == (0 : Int)) == ((↑b5_1.length : Int) == (0 : Int)) then true else bif bif false then true else decide (rn5_8_7 t1 t2 t10 b5_0 b5_1 b5_4 b7 b8 > rn5_8_6 t1 t2 t10 b5_0 b5_1 b5_4 b7 b8) then true else bif decide (rn5_8_7 t1 t2 t10 b5_0 b5_1 b5_4 b7 b8 > (0 : Int)) then bif decide (rn5_8_8 t1 t2 t10 b5_0 b5_1 b5_4 b7 b8 < (1 : Int)) then true else true else true then bif bif !(rn5_8_7 t1 t2 t10 b5_0 b5_1 b5_4 b7 b8 == (0 : Int)) == ((↑b5_1.length : Int) == (0 : Int)) then true else bif bif false then true else decide (rn5_8_7 t1 t2 t10 b5_0 b5_1 b5_4 b7 b8 > rn5_8_6 t1 t2 t10 b5_0 b5_1 b5_4 b7 b8) then true else bif decide (rn5_8_7 t1 t2 t10 b5_0 b5_1 b5_4 b7 b8 > (0 : Int)) then bif decide (rn5_8_8 t1 t2 t10 b5_0 b5_1 b5_4 b7 b8 < (1 : Int)) then bif false then true else bif true then true else false else bif false then true else bif true then bif false then true else decide (rn5_8_8 t1 t2 t10 b5_0 b5_1 b5_4 b7 b8 > (↑b8.length : Int)) else false else bif false then true else false then some (Ex.ret, [AV.bool false], []) else bif decide (rn5_8_7 t1 t2 t10 b5_0 b5_1 b5_4 b7 b8 > (0 : Int)) then bif decide ((0 : Int) ≤ rn5_8_9 t1 t2 t10 b5_0 b5_1 b5_4 b7 b8) && decide (rn5_8_9 t1 t2 t10 b5_0 b5_1 b5_4 b7 b8 < (↑b8.length : Int)) then bif decide ((0 : Int) ≤ rn5_8_9 t1 t2 t10 b5_0 b5_1 b5_4 b7 b8) && decide (rn5_8_9 t1 t2 t10 b5_0 b5_1 b5_4 b7 b8 < (↑b8.length : Int)) then bif bif bif decide ((0 : Int) ≤ rn5_8_9 t1 t2 t10 b5_0 b5_1 b5_4 b7 b8) then decide (rn5_8_9 t1 t2 t10 b5_0 b5_1 b5_4 b7 b8 < rn5_8_11 t1 t2 t10 b5_0 b5_1 b5_4 b7 b8) else false then bif decide ((0 : Int) ≤ rn5_8_9 t1 t2 t10 b5_0 b5_1 b5_4 b7 b8) && decide (rn5_8_9 t1 t2 t10 b5_0 b5_1 b5_4 b7 b8 < (↑b7.length : Int)) then bif bif decide (rn5_8_13 t1 t2 t10 b5_0 b5_1 b5_4 b7 b8 = rn5_8_14 t1 t2 t10 b5_0 b5_1 b5_4 b7 b8) then false else true then true else true else false else false then bif bif bif decide ((0 : Int) ≤ rn5_8_9 t1 t2 t10 b5_0 b5_1 b5_4 b7 b8) then decide (rn5_8_9 t1 t2 t10 b5_0 b5_1 b5_4 b7 b8 < rn5_8_11 t1 t2 t10 b5_0 b5_1 b5_4 b7 b8) else false then bif decide ((0 : Int) ≤ rn5_8_9 t1 t2 t10 b5_0 b5_1 b5_4 b7 b8) && decide (rn5_8_9 t1 t2 t10 b5_0 b5_1 b5_4 b7 b8 < (↑b7.length : Int)) then bif bif decide (rn5_8_13 t1 t2 t10 b5_0 b5_1 b5_4 b7 b8 = rn5_8_14 t1 t2 t10 b5_0 b5_1 b5_4 b7 b8) then false else true then true else bif false then true else !(rn5_8_12 t1 t2 t10 b5_0 b5_1 b5_4 b7 b8 == (0 : Int)) == (rn5_8_16 t1 t2 t10 b5_0 b5_1 b5_4 b7 b8 == rn5_8_17 t1 t2 t10 b5_0 b5_1 b5_4 b7 b8) else false else false then some (Ex.ret, [AV.bool false], []) else bif (spI g5_29 n5_29 y5_29 z5_29 d5_29 ((t1, t2, t10, b5_0, rn5_8_15 t1 t2 t10 b5_0 b5_1 b5_4 b7 b8, b5_0, rn5_8_15 t1 t2 t10 b5_0 b5_1 b5_4 b7 b8, b5_4, b7, rn5_8_10 t1 t2 t10 b5_0 b5_1 b5_4 b7 b8), (0 : Int))).fst then bif bif decide (rn5_8_18 t1 t2 t10 b5_0 b5_1 b5_4 b7 b8 < rn5_8_16 t1 t2 t10 b5_0 b5_1 b5_4 b7 b8) then bif bif decide ((0 : Int) ≤ rn5_8_18 t1 t2 t10 b5_0 b5_1 b5_4 b7 b8) then decide (rn5_8_18 t1 t2 t10 b5_0 b5_1 b5_4 b7 b8 < rn5_8_16 t1 t2 t10 b5_0 b5_1 b5_4 b7 b8) else false then decide (rn5_8_19 t1 t2 t10 b5_0 b5_1 b5_4 b7 b8 > b5_4) else false else false then some (Ex.ret, [AV.bool false], []) else bif vev24_1 b5_0 Tk.imm (rn5_8_15 t1 t2 t10 b5_0 b5_1 b5_4 b7 b8) then bif bif decide (rn5_8_20 t1 t2 t10 b5_0 b5_1 b5_4 b7 b8 = (0 : Int)) then false else true then some (Ex.ret, [AV.bool false], []) else some (Ex.norm, [AV.sl Tk.imm [Kd.int IntKind.u8] t1, AV.sl Tk.imm [Kd.int IntKind.u8] t2, AV.hp (nat_lit 5) (nat_lit 0), AV.int IntKind.i64 (IntKind.i64.wrap (t10 + (1 : Int)))], [Blk.dead, Blk.dead, Blk.var [AV.int IntKind.i64 b5_0, AV.sl Tk.imm [Kd.int IntKind.i64, Kd.int IntKind.i64, Kd.int IntKind.i64, Kd.int IntKind.i64] (rn5_8_15 t1 t2 t10 b5_0 b5_1 b5_4 b7 b8), AV.rf (nat_lit 8) [Kd.int IntKind.i64], AV.rf (nat_lit 7) [Kd.int IntKind.i64], AV.int IntKind.i64 b5_4], Blk.row [Kd.int IntKind.i64] b7, Blk.row [Kd.int IntKind.i64] (rn5_8_10 t1 t2 t10 b5_0 b5_1 b5_4 b7 b8)]) else none else none else none else none else none else bif (spI g5_29 n5_29 y5_29 z5_29 d5_29 ((t1, t2, t10, b5_0, rn5_8_15 t1 t2 t10 b5_0 b5_1 b5_4 b7 b8, b5_0, rn5_8_15 t1 t2 t10 b5_0 b5_1 b5_4 b7 b8, b5_4, b7, b8), (0 : Int))).fst then bif xc5_29_0 t1 t2 t10 (rn5_8_21 t1 t2 t10 b5_0 b5_1 b5_4 b7 b8) b5_0 (rn5_8_15 t1 t2 t10 b5_0 b5_1 b5_4 b7 b8) b5_0 (rn5_8_15 t1 t2 t10 b5_0 b5_1 b5_4 b7 b8) b5_4 b7 b8 then some (Ex.ret, [AV.bool false], []) else bif vev24_1 b5_0 Tk.imm (rn5_8_15 t1 t2 t10 b5_0 b5_1 b5_4 b7 b8) then bif rn5_8_20 t1 t2 t10 b5_0 b5_1 b5_4 b7 b8 != (0 : Int) then some (Ex.ret, [AV.bool false], []) else some (Ex.norm, [AV.sl Tk.imm [Kd.int IntKind.u8] t1, AV.sl Tk.imm [Kd.int IntKind.u8] t2, AV.hp (nat_lit 5) (nat_lit 0), AV.int IntKind.i64 (IntKind.i64.wrap (t10 + (1 : Int)))], [Blk.dead, Blk.dead, Blk.var [AV.int IntKind.i64 b5_0, AV.sl Tk.imm [Kd.int IntKind.i64, Kd.int IntKind.i64, Kd.int IntKind.i64, Kd.int IntKind.i64] (rn5_8_15 t1 t2 t10 b5_0 b5_1 b5_4 b7 b8), AV.rf (nat_lit 8) [Kd.int IntKind.i64], AV.rf (nat_lit 7) [Kd.int IntKind.i64], AV.int IntKind.i64 b5_4], Blk.row [Kd.int IntKind.i64] b7, Blk.row [Kd.int IntKind.i64] b8]) else none else none else none else none else none else none else bif decide ((0 : Int) ≤ t10) && decide (t10 < (↑t2.length : Int)) then bif decide (rn5_8_0 t1 t2 t10 b5_0 b5_1 b5_4 b7 b8 > (0 : Int)) then bif decide ((0 : Int) ≤ t10) && decide (t10 < (↑t2.length : Int)) then bif vev10_2 b5_0 b5_1 (rn5_8_1 t1 t2 t10 b5_0 b5_1 b5_4 b7 b8) (Int.tmod (0 : Int) (8 : Int)) (rn5_8_3 t1 t2 t10 b5_0 b5_1 b5_4 b7 b8) then bif bif rn5_8_22 t1 t2 t10 b5_0 b5_1 b5_4 b7 b8 != (0 : Int) then bif rn5_8_22 t1 t2 t10 b5_0 b5_1 b5_4 b7 b8 != (7 : Int) then true else true else true then bif bif rn5_8_22 t1 t2 t10 b5_0 b5_1 b5_4 b7 b8 != (0 : Int) then bif rn5_8_22 t1 t2 t10 b5_0 b5_1 b5_4 b7 b8 != (7 : Int) then bif true then true else false else bif true then bif false then true else decide ((↑b5_1.length : Int) < (16 : Int)) else false else false then some (Ex.ret, [AV.bool false], []) else bif rn5_8_22 t1 t2 t10 b5_0 b5_1 b5_4 b7 b8 == (0 : Int) then bif decide ((0 : Int) ≤ t10) && decide (t10 < (↑t2.length : Int)) then bif bif decide ((b7.length + (rn5_8_5 t1 t2 t10 b5_0 b5_1 b5_4 b7 b8).length) * (8 : Nat) ≤ (140737488355328 : Nat)) then decide (b7.length + (rn5_8_5 t1 t2 t10 b5_0 b5_1 b5_4 b7 b8).length ≤ (9223372036854775807 : Nat)) else false then bif bif decide ((b8.length + [[AV.int IntKind.i64 (0 : Int)]].length) * (8 : Nat) ≤ (140737488355328 : Nat)) then decide (b8.length + [[AV.int IntKind.i64 (0 : Int)]].length ≤ (9223372036854775807 : Nat)) else false then some (Ex.norm, [AV.sl Tk.imm [Kd.int IntKind.u8] t1, AV.sl Tk.imm [Kd.int IntKind.u8] t2, AV.hp (nat_lit 5) (nat_lit 0), AV.int IntKind.i64 (IntKind.i64.wrap (t10 + (1 : Int)))], [Blk.dead, Blk.dead, Blk.var [AV.int IntKind.i64 b5_0, AV.sl Tk.imm [Kd.int IntKind.i64, Kd.int IntKind.i64, Kd.int IntKind.i64, Kd.int IntKind.i64] (vev10_0 b5_0 b5_1 (rn5_8_1 t1 t2 t10 b5_0 b5_1 b5_4 b7 b8) (Int.tmod (0 : Int) (8 : Int)) (rn5_8_3 t1 t2 t10 b5_0 b5_1 b5_4 b7 b8)), AV.rf (nat_lit 8) [Kd.int IntKind.i64], AV.rf (nat_lit 7) [Kd.int IntKind.i64], AV.int IntKind.i64 b5_4], Blk.row [Kd.int IntKind.i64] (b7 ++ rn5_8_5 t1 t2 t10 b5_0 b5_1 b5_4 b7 b8), Blk.row [Kd.int IntKind.i64] (b8 ++ [[AV.int IntKind.i64 (0 : Int)]])]) else none else none else none else some (Ex.norm, [AV.sl Tk.imm [Kd.int IntKind.u8] t1, AV.sl Tk.imm [Kd.int IntKind.u8] t2, AV.hp (nat_lit 5) (nat_lit 0), AV.int IntKind.i64 (IntKind.i64.wrap (t10 + (1 : Int)))], [Blk.dead, Blk.dead, Blk.var [AV.int IntKind.i64 b5_0, AV.sl Tk.imm [Kd.int IntKind.i64, Kd.int IntKind.i64, Kd.int IntKind.i64, Kd.int IntKind.i64] (vev10_0 b5_0 b5_1 (rn5_8_1 t1 t2 t10 b5_0 b5_1 b5_4 b7 b8) (Int.tmod (0 : Int) (8 : Int)) (rn5_8_3 t1 t2 t10 b5_0 b5_1 b5_4 b7 b8)), AV.rf (nat_lit 8) [Kd.int IntKind.i64], AV.rf (nat_lit 7) [Kd.int IntKind.i64], AV.int IntKind.i64 b5_4], Blk.row [Kd.int IntKind.i64] b7, Blk.row [Kd.int IntKind.i64] b8]) else none else none else none else bif vev14_6 b5_0 b5_1 (IntKind.i64.wrap ((1 : Int) + Int.tmod (0 : Int) (9 : Int))) then bif bif !(rn5_8_23 t1 t2 t10 b5_0 b5_1 b5_4 b7 b8 == (0 : Int)) == ((↑b5_1.length : Int) == (0 : Int)) then true else bif bif false then true else decide (rn5_8_23 t1 t2 t10 b5_0 b5_1 b5_4 b7 b8 > IntKind.i64.wrap ((1 : Int) + Int.tmod (0 : Int) (9 : Int))) then true else bif decide (rn5_8_23 t1 t2 t10 b5_0 b5_1 b5_4 b7 b8 > (0 : Int)) then bif decide (rn5_8_24 t1 t2 t10 b5_0 b5_1 b5_4 b7 b8 < (1 : Int)) then true else true else true then bif bif !(rn5_8_23 t1 t2 t10 b5_0 b5_1 b5_4 b7 b8 == (0 : Int)) == ((↑b5_1.length : Int) == (0 : Int)) then true else bif bif false then true else decide (rn5_8_23 t1 t2 t10 b5_0 b5_1 b5_4 b7 b8 > IntKind.i64.wrap ((1 : Int) + Int.tmod (0 : Int) (9 : Int))) then true else bif decide (rn5_8_23 t1 t2 t10 b5_0 b5_1 b5_4 b7 b8 > (0 : Int)) then bif decide (rn5_8_24 t1 t2 t10 b5_0 b5_1 b5_4 b7 b8 < (1 : Int)) then bif false then true else bif true then true else false else bif false then true else bif true then bif false then true else decide (rn5_8_24 t1 t2 t10 b5_0 b5_1 b5_4 b7 b8 > (↑b8.length : Int)) else false else bif false then true else false then some (Ex.ret, [AV.bool false], []) else bif decide (rn5_8_23 t1 t2 t10 b5_0 b5_1 b5_4 b7 b8 > (0 : Int)) then bif decide ((0 : Int) ≤ rn5_8_25 t1 t2 t10 b5_0 b5_1 b5_4 b7 b8) && decide (rn5_8_25 t1 t2 t10 b5_0 b5_1 b5_4 b7 b8 < (↑b8.length : Int)) then bif decide ((0 : Int) ≤ rn5_8_25 t1 t2 t10 b5_0 b5_1 b5_4 b7 b8) && decide (rn5_8_25 t1 t2 t10 b5_0 b5_1 b5_4 b7 b8 < (↑b8.length : Int)) then bif bif bif decide ((0 : Int) ≤ rn5_8_25 t1 t2 t10 b5_0 b5_1 b5_4 b7 b8) then decide (rn5_8_25 t1 t2 t10 b5_0 b5_1 b5_4 b7 b8 < rn5_8_27 t1 t2 t10 b5_0 b5_1 b5_4 b7 b8) else false then bif decide ((0 : Int) ≤ rn5_8_25 t1 t2 t10 b5_0 b5_1 b5_4 b7 b8) && decide (rn5_8_25 t1 t2 t10 b5_0 b5_1 b5_4 b7 b8 < (↑b7.length : Int)) then bif bif decide (rn5_8_29 t1 t2 t10 b5_0 b5_1 b5_4 b7 b8 = rn5_8_30 t1 t2 t10 b5_0 b5_1 b5_4 b7 b8) then false else true then true else true else false else false then bif bif bif decide ((0 : Int) ≤ rn5_8_25 t1 t2 t10 b5_0 b5_1 b5_4 b7 b8) then decide (rn5_8_25 t1 t2 t10 b5_0 b5_1 b5_4 b7 b8 < rn5_8_27 t1 t2 t10 b5_0 b5_1 b5_4 b7 b8) else false then bif decide ((0 : Int) ≤ rn5_8_25 t1 t2 t10 b5_0 b5_1 b5_4 b7 b8) && decide (rn5_8_25 t1 t2 t10 b5_0 b5_1 b5_4 b7 b8 < (↑b7.length : Int)) then bif bif decide (rn5_8_29 t1 t2 t10 b5_0 b5_1 b5_4 b7 b8 = rn5_8_30 t1 t2 t10 b5_0 b5_1 b5_4 b7 b8) then false else true then true else bif false then true else !(rn5_8_28 t1 t2 t10 b5_0 b5_1 b5_4 b7 b8 == (0 : Int)) == (rn5_8_32 t1 t2 t10 b5_0 b5_1 b5_4 b7 b8 == rn5_8_17 t1 t2 t10 b5_0 b5_1 b5_4 b7 b8) else false else false then some (Ex.ret, [AV.bool false], []) else bif (spI g5_29 n5_29 y5_29 z5_29 d5_29 ((t1, t2, t10, b5_0, rn5_8_31 t1 t2 t10 b5_0 b5_1 b5_4 b7 b8, b5_0, rn5_8_31 t1 t2 t10 b5_0 b5_1 b5_4 b7 b8, b5_4, b7, rn5_8_26 t1 t2 t10 b5_0 b5_1 b5_4 b7 b8), (0 : Int))).fst then bif bif decide (rn5_8_33 t1 t2 t10 b5_0 b5_1 b5_4 b7 b8 < rn5_8_32 t1 t2 t10 b5_0 b5_1 b5_4 b7 b8) then bif bif decide ((0 : Int) ≤ rn5_8_33 t1 t2 t10 b5_0 b5_1 b5_4 b7 b8) then decide (rn5_8_33 t1 t2 t10 b5_0 b5_1 b5_4 b7 b8 < rn5_8_32 t1 t2 t10 b5_0 b5_1 b5_4 b7 b8) else false then decide (rn5_8_34 t1 t2 t10 b5_0 b5_1 b5_4 b7 b8 > b5_4) else false else false then some (Ex.ret, [AV.bool false], []) else bif vev24_1 b5_0 Tk.imm (rn5_8_31 t1 t2 t10 b5_0 b5_1 b5_4 b7 b8) then bif bif decide (rn5_8_35 t1 t2 t10 b5_0 b5_1 b5_4 b7 b8 = (0 : Int)) then false else true then some (Ex.ret, [AV.bool false], []) else some (Ex.norm, [AV.sl Tk.imm [Kd.int IntKind.u8] t1, AV.sl Tk.imm [Kd.int IntKind.u8] t2, AV.hp (nat_lit 5) (nat_lit 0), AV.int IntKind.i64 (IntKind.i64.wrap (t10 + (1 : Int)))], [Blk.dead, Blk.dead, Blk.var [AV.int IntKind.i64 b5_0, AV.sl Tk.imm [Kd.int IntKind.i64, Kd.int IntKind.i64, Kd.int IntKind.i64, Kd.int IntKind.i64] (rn5_8_31 t1 t2 t10 b5_0 b5_1 b5_4 b7 b8), AV.rf (nat_lit 8) [Kd.int IntKind.i64], AV.rf (nat_lit 7) [Kd.int IntKind.i64], AV.int IntKind.i64 b5_4], Blk.row [Kd.int IntKind.i64] b7, Blk.row [Kd.int IntKind.i64] (rn5_8_26 t1 t2 t10 b5_0 b5_1 b5_4 b7 b8)]) else none else none else none else none else none else bif (spI g5_29 n5_29 y5_29 z5_29 d5_29 ((t1, t2, t10, b5_0, rn5_8_31 t1 t2 t10 b5_0 b5_1 b5_4 b7 b8, b5_0, rn5_8_31 t1 t2 t10 b5_0 b5_1 b5_4 b7 b8, b5_4, b7, b8), (0 : Int))).fst then bif xc5_29_0 t1 t2 t10 (rn5_8_36 t1 t2 t10 b5_0 b5_1 b5_4 b7 b8) b5_0 (rn5_8_31 t1 t2 t10 b5_0 b5_1 b5_4 b7 b8) b5_0 (rn5_8_31 t1 t2 t10 b5_0 b5_1 b5_4 b7 b8) b5_4 b7 b8 then some (Ex.ret, [AV.bool false], []) else bif vev24_1 b5_0 Tk.imm (rn5_8_31 t1 t2 t10 b5_0 b5_1 b5_4 b7 b8) then bif rn5_8_35 t1 t2 t10 b5_0 b5_1 b5_4 b7 b8 != (0 : Int) then some (Ex.ret, [AV.bool false], []) else some (Ex.norm, [AV.sl Tk.imm [Kd.int IntKind.u8] t1, AV.sl Tk.imm [Kd.int IntKind.u8] t2, AV.hp (nat_lit 5) (nat_lit 0), AV.int IntKind.i64 (IntKind.i64.wrap (t10 + (1 : Int)))], [Blk.dead, Blk.dead, Blk.var [AV.int IntKind.i64 b5_0, AV.sl Tk.imm [Kd.int IntKind.i64, Kd.int IntKind.i64, Kd.int IntKind.i64, Kd.int IntKind.i64] (rn5_8_31 t1 t2 t10 b5_0 b5_1 b5_4 b7 b8), AV.rf (nat_lit 8) [Kd.int IntKind.i64], AV.rf (nat_lit 7) [Kd.int IntKind.i64], AV.int IntKind.i64 b5_4], Blk.row [Kd.int IntKind.i64] b7, Blk.row [Kd.int IntKind.i64] b8]) else none else none else none else none else none else some (Ex.exit (nat_lit 0), [AV.junk], []) := by kernel_rfl
  rw [h]
  clear h
  unfold go5_8 nx5_8_2 nx5_8_4 nx5_8_6 nx5_8_7 xc5_8_0 xc5_8_1
  generalize ((spI g5_29 n5_29 y5_29 z5_29 d5_29 ((t1, t2, t10, b5_0, rn5_8_31 t1 t2 t10 b5_0 b5_1 b5_4 b7 b8, b5_0, rn5_8_31 t1 t2 t10 b5_0 b5_1 b5_4 b7 b8, b5_4, b7, rn5_8_26 t1 t2 t10 b5_0 b5_1 b5_4 b7 b8), (0 : Int))).fst) = c0
  generalize ((spI g5_29 n5_29 y5_29 z5_29 d5_29 ((t1, t2, t10, b5_0, rn5_8_15 t1 t2 t10 b5_0 b5_1 b5_4 b7 b8, b5_0, rn5_8_15 t1 t2 t10 b5_0 b5_1 b5_4 b7 b8, b5_4, b7, rn5_8_10 t1 t2 t10 b5_0 b5_1 b5_4 b7 b8), (0 : Int))).fst) = c1
  generalize ((spI g5_29 n5_29 y5_29 z5_29 d5_29 ((t1, t2, t10, b5_0, rn5_8_15 t1 t2 t10 b5_0 b5_1 b5_4 b7 b8, b5_0, rn5_8_15 t1 t2 t10 b5_0 b5_1 b5_4 b7 b8, b5_4, b7, b8), (0 : Int))).fst) = c2
  generalize ((spI g5_29 n5_29 y5_29 z5_29 d5_29 ((t1, t2, t10, b5_0, rn5_8_31 t1 t2 t10 b5_0 b5_1 b5_4 b7 b8, b5_0, rn5_8_31 t1 t2 t10 b5_0 b5_1 b5_4 b7 b8, b5_4, b7, b8), (0 : Int))).fst) = c3
  generalize (decide ((b8.length + [[AV.int IntKind.i64 (0 : Int)]].length) * (8 : Nat) ≤ (140737488355328 : Nat))) = c4
  generalize (decide ((b7.length + (rn5_8_5 t1 t2 t10 b5_0 b5_1 b5_4 b7 b8).length) * (8 : Nat) ≤ (140737488355328 : Nat))) = c5
  generalize (decide (b8.length + [[AV.int IntKind.i64 (0 : Int)]].length ≤ (9223372036854775807 : Nat))) = c6
  generalize (decide (rn5_8_23 t1 t2 t10 b5_0 b5_1 b5_4 b7 b8 > IntKind.i64.wrap ((1 : Int) + Int.tmod (0 : Int) (9 : Int)))) = c7
  generalize (decide ((0 : Int) ≤ rn5_8_9 t1 t2 t10 b5_0 b5_1 b5_4 b7 b8) && decide (rn5_8_9 t1 t2 t10 b5_0 b5_1 b5_4 b7 b8 < (↑b7.length : Int))) = c8
  generalize (decide ((0 : Int) ≤ rn5_8_9 t1 t2 t10 b5_0 b5_1 b5_4 b7 b8) && decide (rn5_8_9 t1 t2 t10 b5_0 b5_1 b5_4 b7 b8 < (↑b8.length : Int))) = c9
  generalize (decide ((0 : Int) ≤ rn5_8_25 t1 t2 t10 b5_0 b5_1 b5_4 b7 b8) && decide (rn5_8_25 t1 t2 t10 b5_0 b5_1 b5_4 b7 b8 < (↑b8.length : Int))) = c10
  generalize (decide ((0 : Int) ≤ rn5_8_25 t1 t2 t10 b5_0 b5_1 b5_4 b7 b8) && decide (rn5_8_25 t1 t2 t10 b5_0 b5_1 b5_4 b7 b8 < (↑b7.length : Int))) = c11
  generalize (decide (b7.length + (rn5_8_5 t1 t2 t10 b5_0 b5_1 b5_4 b7 b8).length ≤ (9223372036854775807 : Nat))) = c12
  generalize (!(rn5_8_12 t1 t2 t10 b5_0 b5_1 b5_4 b7 b8 == (0 : Int)) == (rn5_8_16 t1 t2 t10 b5_0 b5_1 b5_4 b7 b8 == rn5_8_17 t1 t2 t10 b5_0 b5_1 b5_4 b7 b8)) = c13
  generalize (!(rn5_8_28 t1 t2 t10 b5_0 b5_1 b5_4 b7 b8 == (0 : Int)) == (rn5_8_32 t1 t2 t10 b5_0 b5_1 b5_4 b7 b8 == rn5_8_17 t1 t2 t10 b5_0 b5_1 b5_4 b7 b8)) = c14
  generalize (!(rn5_8_23 t1 t2 t10 b5_0 b5_1 b5_4 b7 b8 == (0 : Int)) == ((↑b5_1.length : Int) == (0 : Int))) = c15
  generalize (!(rn5_8_7 t1 t2 t10 b5_0 b5_1 b5_4 b7 b8 == (0 : Int)) == ((↑b5_1.length : Int) == (0 : Int))) = c16
  generalize (decide (rn5_8_18 t1 t2 t10 b5_0 b5_1 b5_4 b7 b8 < rn5_8_16 t1 t2 t10 b5_0 b5_1 b5_4 b7 b8)) = c17
  generalize (decide (rn5_8_7 t1 t2 t10 b5_0 b5_1 b5_4 b7 b8 > rn5_8_6 t1 t2 t10 b5_0 b5_1 b5_4 b7 b8)) = c18
  generalize (decide (rn5_8_9 t1 t2 t10 b5_0 b5_1 b5_4 b7 b8 < rn5_8_11 t1 t2 t10 b5_0 b5_1 b5_4 b7 b8)) = c19
  generalize (decide (rn5_8_25 t1 t2 t10 b5_0 b5_1 b5_4 b7 b8 < rn5_8_27 t1 t2 t10 b5_0 b5_1 b5_4 b7 b8)) = c20
  generalize (decide (rn5_8_33 t1 t2 t10 b5_0 b5_1 b5_4 b7 b8 < rn5_8_32 t1 t2 t10 b5_0 b5_1 b5_4 b7 b8)) = c21
  generalize (decide (rn5_8_13 t1 t2 t10 b5_0 b5_1 b5_4 b7 b8 = rn5_8_14 t1 t2 t10 b5_0 b5_1 b5_4 b7 b8)) = c22
  generalize (decide (rn5_8_29 t1 t2 t10 b5_0 b5_1 b5_4 b7 b8 = rn5_8_30 t1 t2 t10 b5_0 b5_1 b5_4 b7 b8)) = c23
  generalize (decide ((0 : Int) ≤ t10) && decide (t10 < (↑t2.length : Int))) = c24
  generalize (decide ((0 : Int) ≤ t10) && decide (t10 < (↑t1.length : Int))) = c25
  generalize (decide (rn5_8_24 t1 t2 t10 b5_0 b5_1 b5_4 b7 b8 > (↑b8.length : Int))) = c26
  generalize (decide (rn5_8_8 t1 t2 t10 b5_0 b5_1 b5_4 b7 b8 > (↑b8.length : Int))) = c27
  generalize (xc5_29_0 t1 t2 t10 (rn5_8_21 t1 t2 t10 b5_0 b5_1 b5_4 b7 b8) b5_0 (rn5_8_15 t1 t2 t10 b5_0 b5_1 b5_4 b7 b8) b5_0 (rn5_8_15 t1 t2 t10 b5_0 b5_1 b5_4 b7 b8) b5_4 b7 b8) = c28
  generalize (xc5_29_0 t1 t2 t10 (rn5_8_36 t1 t2 t10 b5_0 b5_1 b5_4 b7 b8) b5_0 (rn5_8_31 t1 t2 t10 b5_0 b5_1 b5_4 b7 b8) b5_0 (rn5_8_31 t1 t2 t10 b5_0 b5_1 b5_4 b7 b8) b5_4 b7 b8) = c29
  generalize (decide ((0 : Int) ≤ rn5_8_18 t1 t2 t10 b5_0 b5_1 b5_4 b7 b8)) = c30
  generalize (decide (rn5_8_23 t1 t2 t10 b5_0 b5_1 b5_4 b7 b8 > (0 : Int))) = c31
  generalize (decide (rn5_8_24 t1 t2 t10 b5_0 b5_1 b5_4 b7 b8 < (1 : Int))) = c32
  generalize (decide ((0 : Int) ≤ rn5_8_33 t1 t2 t10 b5_0 b5_1 b5_4 b7 b8)) = c33
  generalize (decide (rn5_8_0 t1 t2 t10 b5_0 b5_1 b5_4 b7 b8 > (0 : Int))) = c34
  generalize (decide ((0 : Int) ≤ rn5_8_25 t1 t2 t10 b5_0 b5_1 b5_4 b7 b8)) = c35
  generalize (decide ((0 : Int) ≤ rn5_8_9 t1 t2 t10 b5_0 b5_1 b5_4 b7 b8)) = c36
  generalize (decide (rn5_8_7 t1 t2 t10 b5_0 b5_1 b5_4 b7 b8 > (0 : Int))) = c37
  generalize (decide (rn5_8_8 t1 t2 t10 b5_0 b5_1 b5_4 b7 b8 < (1 : Int))) = c38
  generalize (vev10_2 b5_0 b5_1 (rn5_8_1 t1 t2 t10 b5_0 b5_1 b5_4 b7 b8) (Int.tmod (0 : Int) (8 : Int)) (rn5_8_3 t1 t2 t10 b5_0 b5_1 b5_4 b7 b8)) = c39
  generalize (decide (rn5_8_20 t1 t2 t10 b5_0 b5_1 b5_4 b7 b8 = (0 : Int))) = c40
  generalize (decide (rn5_8_35 t1 t2 t10 b5_0 b5_1 b5_4 b7 b8 = (0 : Int))) = c41
  generalize (vev10_2 b5_0 b5_1 (rn5_8_1 t1 t2 t10 b5_0 b5_1 b5_4 b7 b8) (rn5_8_2 t1 t2 t10 b5_0 b5_1 b5_4 b7 b8) (rn5_8_3 t1 t2 t10 b5_0 b5_1 b5_4 b7 b8)) = c42
  generalize (decide ((↑b5_1.length : Int) < (16 : Int))) = c43
  generalize (vev14_6 b5_0 b5_1 (IntKind.i64.wrap ((1 : Int) + Int.tmod (0 : Int) (9 : Int)))) = c44
  generalize (decide (rn5_8_19 t1 t2 t10 b5_0 b5_1 b5_4 b7 b8 > b5_4)) = c45
  generalize (decide (rn5_8_34 t1 t2 t10 b5_0 b5_1 b5_4 b7 b8 > b5_4)) = c46
  generalize (decide (t10 < (↑t2.length : Int))) = c47
  generalize (decide (t10 < (↑t1.length : Int))) = c48
  generalize (rn5_8_22 t1 t2 t10 b5_0 b5_1 b5_4 b7 b8 != (0 : Int)) = c49
  generalize (rn5_8_22 t1 t2 t10 b5_0 b5_1 b5_4 b7 b8 == (0 : Int)) = c50
  generalize (rn5_8_4 t1 t2 t10 b5_0 b5_1 b5_4 b7 b8 == (0 : Int)) = c51
  generalize (rn5_8_4 t1 t2 t10 b5_0 b5_1 b5_4 b7 b8 != (7 : Int)) = c52
  generalize (rn5_8_35 t1 t2 t10 b5_0 b5_1 b5_4 b7 b8 != (0 : Int)) = c53
  generalize (rn5_8_4 t1 t2 t10 b5_0 b5_1 b5_4 b7 b8 != (0 : Int)) = c54
  generalize (rn5_8_20 t1 t2 t10 b5_0 b5_1 b5_4 b7 b8 != (0 : Int)) = c55
  generalize (rn5_8_22 t1 t2 t10 b5_0 b5_1 b5_4 b7 b8 != (7 : Int)) = c56
  generalize (vev24_1 b5_0 Tk.imm (rn5_8_15 t1 t2 t10 b5_0 b5_1 b5_4 b7 b8)) = c57
  generalize (vev24_1 b5_0 Tk.imm (rn5_8_31 t1 t2 t10 b5_0 b5_1 b5_4 b7 b8)) = c58
  generalize (vev14_6 b5_0 b5_1 (rn5_8_6 t1 t2 t10 b5_0 b5_1 b5_4 b7 b8)) = c59
  cases c47
  · skip
    rfl
  · skip
    cases c48
    · skip
      cases c24
      · skip
        rfl
      · skip
        cases c34
        · skip
          cases c44
          · skip
            rfl
          · skip
            cases c15
            · skip
              cases c7
              · skip
                cases c31
                · skip
                  cases c3
                  · skip
                    rfl
                  · skip
                    cases c29
                    · skip
                      cases c58
                      · skip
                        rfl
                      · skip
                        cases c53
                        · skip
                          rfl
                        · skip
                          rfl
                    · skip
                      rfl
                · skip
                  cases c32
                  · skip
                    cases c26
                    · skip
                      cases c10
                      · skip
                        rfl
                      · skip
                        cases c35
                        · skip
                          rfl
                        · skip
                          cases c20
                          · skip
                            rfl
                          · skip
                            cases c11
                            · skip
                              rfl
                            · skip
                              cases c23
                              · skip
                                rfl
                              · skip
                                cases c14
                                · skip
                                  cases c0
                                  · skip
                                    rfl
                                  · skip
                                    cases c21
                                    · skip
                                      cases c58
                                      · skip
                                        rfl
                                      · skip
                                        cases c41
                                        · skip
                                          rfl
                                        · skip
                                          rfl
                                    · skip
                                      cases c33
                                      · skip
                                        cases c58
                                        · skip
                                          rfl
                                        · skip
                                          cases c41
                                          · skip
                                            rfl
                                          · skip
                                            rfl
                                      · skip
                                        cases c46
                                        · skip
                                          cases c58
                                          · skip
                                            rfl
                                          · skip
                                            cases c41
                                            · skip
                                              rfl
                                            · skip
                                              rfl
                                        · skip
                                          rfl
                                · skip
                                  rfl
                    · skip
                      rfl
                  · skip
                    rfl
              · skip
                rfl
            · skip
              rfl
        · skip
          cases c39
          · skip
            rfl
          · skip
            cases c49
            · skip
              cases c50
              · skip
                rfl
              · skip
                cases c5
                · skip
                  rfl
                · skip
                  cases c12
                  · skip
                    rfl
                  · skip
                    cases c4
                    · skip
                      rfl
                    · skip
                      cases c6
                      · skip
                        rfl
                      · skip
                        rfl
            · skip
              cases c56
              · skip
                cases c43
                · skip
                  cases c50
                  · skip
                    rfl
                  · skip
                    cases c5
                    · skip
                      rfl
                    · skip
                      cases c12
                      · skip
                        rfl
                      · skip
                        cases c4
                        · skip
                          rfl
                        · skip
                          cases c6
                          · skip
                            rfl
                          · skip
                            rfl
                · skip
                  rfl
              · skip
                rfl
    · skip
      cases c25
      · skip
        rfl
      · skip
        cases c24
        · skip
          rfl
        · skip
          cases c34
          · skip
            cases c59
            · skip
              rfl
            · skip
              cases c16
              · skip
                cases c18
                · skip
                  cases c37
                  · skip
                    cases c2
                    · skip
                      rfl
                    · skip
                      cases c28
                      · skip
                        cases c57
                        · skip
                          rfl
                        · skip
                          cases c55
                          · skip
                            rfl
                          · skip
                            rfl
                      · skip
                        rfl
                  · skip
                    cases c38
                    · skip
                      cases c27
                      · skip
                        cases c9
                        · skip
                          rfl
                        · skip
                          cases c36
                          · skip
                            rfl
                          · skip
                            cases c19
                            · skip
                              rfl
                            · skip
                              cases c8
                              · skip
                                rfl
                              · skip
                                cases c22
                                · skip
                                  rfl
                                · skip
                                  cases c13
                                  · skip
                                    cases c1
                                    · skip
                                      rfl
                                    · skip
                                      cases c17
                                      · skip
                                        cases c57
                                        · skip
                                          rfl
                                        · skip
                                          cases c40
                                          · skip
                                            rfl
                                          · skip
                                            rfl
                                      · skip
                                        cases c30
                                        · skip
                                          cases c57
                                          · skip
                                            rfl
                                          · skip
                                            cases c40
                                            · skip
                                              rfl
                                            · skip
                                              rfl
                                        · skip
                                          cases c45
                                          · skip
                                            cases c57
                                            · skip
                                              rfl
                                            · skip
                                              cases c40
                                              · skip
                                                rfl
                                              · skip
                                                rfl
                                          · skip
                                            rfl
                                  · skip
                                    rfl
                      · skip
                        rfl
                    · skip
                      rfl
                · skip
                  rfl
              · skip
                rfl
          · skip
            cases c42
            · skip
              rfl
            · skip
              cases c54
              · skip
                cases c51
                · skip
                  rfl
                · skip
                  cases c5
                  · skip
                    rfl
                  · skip
                    cases c12
                    · skip
                      rfl
                    · skip
                      cases c4
                      · skip
                        rfl
                      · skip
                        cases c6
                        · skip
                          rfl
                        · skip
                          rfl
              · skip
                cases c52
                · skip
                  cases c43
                  · skip
                    cases c51
                    · skip
                      rfl
                    · skip
                      cases c5
                      · skip
                        rfl
                      · skip
                        cases c12
                        · skip
                          rfl
                        · skip
                          cases c4
                          · skip
                            rfl
                          · skip
                            cases c6
                            · skip
                              rfl
                            · skip
                              rfl
                  · skip
                    rfl
                · skip
                  rfl
abbrev pl5_8 : Type := (List (List AV)) × (List (List AV)) × Int × Int
abbrev sl5_8 : Type := Int × (List (List AV)) × (List (List AV)) × (List (List AV))
noncomputable def vt5_8 (a : pl5_8 × sl5_8) : List AV := [AV.sl Tk.imm [Kd.int IntKind.u8] a.1.1, AV.sl Tk.imm [Kd.int IntKind.u8] a.1.2.1, AV.hp (nat_lit 5) (nat_lit 0), AV.int IntKind.i64 a.2.1]
noncomputable def vc5_8 (a : pl5_8 × sl5_8) : List Blk := [Blk.dead, Blk.dead, Blk.var [AV.int IntKind.i64 a.1.2.2.1, AV.sl Tk.imm [Kd.int IntKind.i64, Kd.int IntKind.i64, Kd.int IntKind.i64, Kd.int IntKind.i64] a.2.2.1, AV.rf (nat_lit 8) [Kd.int IntKind.i64], AV.rf (nat_lit 7) [Kd.int IntKind.i64], AV.int IntKind.i64 a.1.2.2.2], Blk.row [Kd.int IntKind.i64] a.2.2.2.1, Blk.row [Kd.int IntKind.i64] a.2.2.2.2]
noncomputable def de5_8 (vt : List AV) (vc : List Blk) : Option (pl5_8 × sl5_8) :=
  match vt with
  | [qa0, qa1, qa2, qa3] => (match vc with
  | [qb0, qb1, qb2, qb3, qb4] => (match qa0 with
  | AV.sl Tk.imm [Kd.int IntKind.u8] t1 => (match qa1 with
  | AV.sl Tk.imm [Kd.int IntKind.u8] t2 => (match qa2 with
  | AV.hp (5) (0) => (match qa3 with
  | AV.int IntKind.i64 t10 => (match qb0 with
  | Blk.dead => (match qb1 with
  | Blk.dead => (match qb2 with
  | Blk.var [AV.int IntKind.i64 b5_0, AV.sl Tk.imm [Kd.int IntKind.i64, Kd.int IntKind.i64, Kd.int IntKind.i64, Kd.int IntKind.i64] b5_1, AV.rf (8) [Kd.int IntKind.i64], AV.rf (7) [Kd.int IntKind.i64], AV.int IntKind.i64 b5_4] => (match qb3 with
  | Blk.row [Kd.int IntKind.i64] b7 => (match qb4 with
  | Blk.row [Kd.int IntKind.i64] b8 => (some ((t1, t2, b5_0, b5_4), (t10, b5_1, b7, b8)))
  | _ => none)
  | _ => none)
  | _ => none)
  | _ => none)
  | _ => none)
  | _ => none)
  | _ => none)
  | _ => none)
  | _ => none)
  | _ => none)
  | _ => none
theorem de5_8_ok (vt : List AV) (vc : List Blk) (a : pl5_8 × sl5_8) (h : de5_8 vt vc = some a) : vt = vt5_8 a ∧ vc = vc5_8 a := by
  unfold de5_8 at h
  split at h
  rotate_left
  · cases h
  split at h
  rotate_left
  · cases h
  split at h
  rotate_left
  · cases h
  split at h
  rotate_left
  · cases h
  split at h
  rotate_left
  · cases h
  split at h
  rotate_left
  · cases h
  split at h
  rotate_left
  · cases h
  split at h
  rotate_left
  · cases h
  split at h
  rotate_left
  · cases h
  split at h
  rotate_left
  · cases h
  split at h
  rotate_left
  · cases h
  injection h with h
  subst h
  exact ⟨rfl, rfl⟩
noncomputable def g5_8 (p : pl5_8) (s : sl5_8) : Bool := go5_8 p.1 p.2.1 s.1 p.2.2.1 s.2.1 p.2.2.2 s.2.2.1 s.2.2.2
noncomputable def n5_8 (p : pl5_8) (s : sl5_8) : sl5_8 := (nx5_8_2 p.1 p.2.1 s.1 p.2.2.1 s.2.1 p.2.2.2 s.2.2.1 s.2.2.2, nx5_8_4 p.1 p.2.1 s.1 p.2.2.1 s.2.1 p.2.2.2 s.2.2.1 s.2.2.2, nx5_8_6 p.1 p.2.1 s.1 p.2.2.1 s.2.1 p.2.2.2 s.2.2.1 s.2.2.2, nx5_8_7 p.1 p.2.1 s.1 p.2.2.1 s.2.1 p.2.2.2 s.2.2.1 s.2.2.2)
noncomputable def y5_8 (p : pl5_8) (s : sl5_8) : List (Bool × Out) := [(xc5_8_0 p.1 p.2.1 s.1 p.2.2.1 s.2.1 p.2.2.2 s.2.2.1 s.2.2.2, (Ex.ret, [AV.bool false], []))]
noncomputable def z5_8 (p : pl5_8) (s : sl5_8) : Bool := xc5_8_1 p.1 p.2.1 s.1 p.2.2.1 s.2.1 p.2.2.2 s.2.2.1 s.2.2.2
noncomputable def d5_8 (p : pl5_8) (s : sl5_8) : Out := (Ex.exit (nat_lit 0), [AV.junk], [])
noncomputable def ls5_8 : St → Option (Bool × List (Bool × Ex × St) × Ex × St) := lspOf [1, 2, 9, 10] [2, 3, 5, 7, 8] [6] [] Try.f5.ntmps (0 + tab.nid 5) de5_8 (spI g5_8 n5_8 y5_8 z5_8 d5_8)
theorem lo5_8 (rest : Lsp) : LoopOK1 (cfg Try.prog tab 100000 (gk k17 30) (selL 29 ls5_29 (selL 8 ls5_8 rest)) 5 0 Try.f5.ntmps) (loopAt Try.f5 8) := LoopOK1.iter (i := 8) (by kernel_rfl) [1, 2, 9, 10] [2, 3, 5, 7, 8] [6] [] vt5_8 vc5_8 de5_8 g5_8 n5_8 y5_8 z5_8 d5_8 (fun _ => rfl) de5_8_ok (fun p s => rd5_8 (selL 8 ls5_8 rest) (p.1) (p.2.1) (s.1) (p.2.2.1) (s.2.1) (p.2.2.2) (s.2.2.1) (s.2.2.2)) (fun _ _ => rfl)
noncomputable def lsp5 : Lsp := (selL 29 ls5_29 (selL 8 ls5_8 noLsp))
theorem loops5 : ∀ c, Try.f5.body = some c → LoopsOK (cfg Try.prog tab 100000 (gk k17 30) lsp5 5 0 Try.f5.ntmps) c := loops_of [8, 29] (by kernel_rfl) (by kernel_rfl) (fun i hi => by
  simp only [List.mem_cons, List.not_mem_nil, or_false] at hi
  rcases hi with rfl | rfl
  · exact lo5_8 noLsp
  · exact lo5_29 (selL 8 ls5_8 noLsp))
noncomputable def rev5_0 (limit : Int) (rs : List (List AV)) (cs : List (List AV)) : Int := IntKind.i64.wrap ((1 : Int) + IntKind.i64.wrap (limit.tmod (9 : Int)))
noncomputable def rev5_1 (limit : Int) (rs : List (List AV)) (cs : List (List AV)) : Int := vev18_0 (rev5_0 limit rs cs)
noncomputable def rev5_2 (limit : Int) (rs : List (List AV)) (cs : List (List AV)) : sl5_8 := finL (g5_8 (rs, cs, rev5_1 limit rs cs, rev5_0 limit rs cs)) (n5_8 (rs, cs, rev5_1 limit rs cs, rev5_0 limit rs cs)) ((0 : Int), [], [], [])
noncomputable def vev5_0 (limit : Int) (rs : List (List AV)) (cs : List (List AV)) : Bool := bif bif decide ((↑cs.length : Int) > (40 : Int)) then true else decide ((↑rs.length : Int) > (40 : Int)) then true else bif vev18_1 (rev5_0 limit rs cs) != (0 : Int) then false else bif xc5_8_0 rs cs (rev5_2 limit rs cs).fst (rev5_1 limit rs cs) (rev5_2 limit rs cs).snd.fst (rev5_0 limit rs cs) (rev5_2 limit rs cs).snd.snd.fst (rev5_2 limit rs cs).snd.snd.snd then false else true
noncomputable def vev5_1 (limit : Int) (rs : List (List AV)) (cs : List (List AV)) : Bool := bif bif decide ((↑cs.length : Int) > (40 : Int)) then true else decide ((↑rs.length : Int) > (40 : Int)) then true else bif vev18_1 (rev5_0 limit rs cs) != (0 : Int) then true else bif (spI g5_8 n5_8 y5_8 z5_8 d5_8 ((rs, cs, rev5_1 limit rs cs, rev5_0 limit rs cs), (0 : Int), [], [], [])).fst then true else false
theorem ev5 (limit : Int) (rs : List (List AV)) (cs : List (List AV)) : evFun (cfg Try.prog tab 100000 (gk k17 30) lsp5 5 ([] : List Blk).length Try.f5.ntmps) Try.f5 [.int .u8 limit, .sl .imm [.int .u8] rs, .sl .imm [.int .u8] cs] [] = bif vev5_1 limit rs cs then some (AV.bool (vev5_0 limit rs cs), []) else none := by
  have h : evFun (cfg Try.prog tab 100000 (gk k17 30) lsp5 5 ([] : List Blk).length Try.f5.ntmps) Try.f5 [.int .u8 limit, .sl .imm [.int .u8] rs, .sl .imm [.int .u8] cs] [] = bif bif decide ((↑cs.length : Int) > (40 : Int)) then true else true then bif bif decide ((↑cs.length : Int) > (40 : Int)) then true else bif false then true else decide ((↑rs.length : Int) > (40 : Int)) then some (AV.bool true, []) else bif vev18_1 (rev5_0 limit rs cs) != (0 : Int) then some (AV.bool false, []) else bif (spI g5_8 n5_8 y5_8 z5_8 d5_8 ((rs, cs, rev5_1 limit rs cs, rev5_0 limit rs cs), (0 : Int), [], [], [])).fst then bif xc5_8_0 rs cs (rev5_2 limit rs cs).fst (rev5_1 limit rs cs) (rev5_2 limit rs cs).snd.fst (rev5_0 limit rs cs) (rev5_2 limit rs cs).snd.snd.fst (rev5_2 limit rs cs).snd.snd.snd then some (AV.bool false, []) else some (AV.bool true, []) else none else none := by kernel_rfl
  rw [h]
  clear h
  unfold vev5_0 vev5_1
  generalize (xc5_8_0 rs cs (rev5_2 limit rs cs).fst (rev5_1 limit rs cs) (rev5_2 limit rs cs).snd.fst (rev5_0 limit rs cs) (rev5_2 limit rs cs).snd.snd.fst (rev5_2 limit rs cs).snd.snd.snd) = c0
  generalize ((spI g5_8 n5_8 y5_8 z5_8 d5_8 ((rs, cs, rev5_1 limit rs cs, rev5_0 limit rs cs), (0 : Int), [], [], [])).fst) = c1
  generalize (decide ((↑cs.length : Int) > (40 : Int))) = c2
  generalize (decide ((↑rs.length : Int) > (40 : Int))) = c3
  generalize (vev18_1 (rev5_0 limit rs cs) != (0 : Int)) = c4
  cases c2
  · skip
    cases c3
    · skip
      cases c4
      · skip
        cases c1
        · skip
          rfl
        · skip
          cases c0
          · skip
            rfl
          · skip
            rfl
      · skip
        rfl
    · skip
      rfl
  · skip
    rfl
-- spec vev5_1 limit rs cs ;; (AV.bool (vev5_0 limit rs cs), [])
-- law 5: loops loops5 gam k17
end Go.Proofs.Gv
