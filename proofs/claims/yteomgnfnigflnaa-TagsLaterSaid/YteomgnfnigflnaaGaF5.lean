import Derived.Test.YteomgnfnigflnaaGt
import Derived.KernelRfl
import Derived.Test.YteomgnfnigflnaaGwF
import Derived.Test.YteomgnfnigflnaaGaRunT
namespace Go.Proofs.Gv
open Go.Proofs
set_option linter.unusedVariables false
noncomputable def go5_6 (t0 : List (List AV)) (t1 : List (List AV)) (t2 : Int) (t8 : Int) (t9 : Int) (b4 : List (List AV)) : Bool := bif decide (t9 < (↑t0.length : Int)) then bif decide ((0 : Int) ≤ t9) && decide (t9 < (↑t0.length : Int)) then bif vev11_1 (IntKind.i64.wrap ((1 : Int) + IntKind.i64.wrap ((intOf ((t0.getD t9.toNat []).getD (0 : Nat) AV.junk)).tmod (16 : Int)))) != (0 : Int) then false else bif decide ((b4.length + (1 : Nat)) * (32 : Nat) ≤ (140737488355328 : Nat)) then decide (b4.length + (1 : Nat) ≤ (9223372036854775807 : Nat)) else false else false else false
noncomputable def nx5_6_4 (t0 : List (List AV)) (t1 : List (List AV)) (t2 : Int) (t8 : Int) (t9 : Int) (b4 : List (List AV)) : Int := IntKind.i64.wrap (t9 + (1 : Int))
noncomputable def nx5_6_5 (t0 : List (List AV)) (t1 : List (List AV)) (t2 : Int) (t8 : Int) (t9 : Int) (b4 : List (List AV)) : List (List AV) := b4 ++ [[AV.int IntKind.i64 (vev11_0 (IntKind.i64.wrap ((1 : Int) + IntKind.i64.wrap ((intOf ((t0.getD t9.toNat []).getD (0 : Nat) AV.junk)).tmod (16 : Int))))), AV.int IntKind.i64 (0 : Int), AV.int IntKind.i64 (0 : Int), AV.int IntKind.i64 (0 : Int)]]
noncomputable def xc5_6_0 (t0 : List (List AV)) (t1 : List (List AV)) (t2 : Int) (t8 : Int) (t9 : Int) (b4 : List (List AV)) : Bool := bif decide (t9 < (↑t0.length : Int)) then bif decide ((0 : Int) ≤ t9) && decide (t9 < (↑t0.length : Int)) then vev11_1 (IntKind.i64.wrap ((1 : Int) + IntKind.i64.wrap ((intOf ((t0.getD t9.toNat []).getD (0 : Nat) AV.junk)).tmod (16 : Int)))) != (0 : Int) else false else false
noncomputable def xc5_6_1 (t0 : List (List AV)) (t1 : List (List AV)) (t2 : Int) (t8 : Int) (t9 : Int) (b4 : List (List AV)) : Bool := bif decide (t9 < (↑t0.length : Int)) then false else true
theorem rd5_6 (rest : Lsp) (t0 : List (List AV)) (t1 : List (List AV)) (t2 : Int) (t8 : Int) (t9 : Int) (b4 : List (List AV)) : roundV (cfg Try.prog tab 100000 (gk k18t 30) rest 5 0 Try.f5.ntmps) (loopAt Try.f5 6) [0, 1, 2, 7, 8, 9] [2, 4] [1, 2, 6, 7, 8] [2, 4] [AV.sl Tk.imm [Kd.int IntKind.u8] t0, AV.sl Tk.imm [Kd.int IntKind.u16] t1, AV.int IntKind.u8 t2, AV.rf (nat_lit 4) [Kd.int IntKind.i64, Kd.int IntKind.i64, Kd.int IntKind.i64, Kd.int IntKind.i64], AV.int IntKind.i64 t8, AV.int IntKind.i64 t9] [Blk.dead, Blk.row [Kd.int IntKind.i64, Kd.int IntKind.i64, Kd.int IntKind.i64, Kd.int IntKind.i64] b4] = bif go5_6 t0 t1 t2 t8 t9 b4 then some (Ex.norm, [AV.sl Tk.imm [Kd.int IntKind.u8] t0, AV.sl Tk.imm [Kd.int IntKind.u16] t1, AV.int IntKind.u8 t2, AV.rf (nat_lit 4) [Kd.int IntKind.i64, Kd.int IntKind.i64, Kd.int IntKind.i64, Kd.int IntKind.i64], AV.int IntKind.i64 t8, AV.int IntKind.i64 (nx5_6_4 t0 t1 t2 t8 t9 b4)], [Blk.dead, Blk.row [Kd.int IntKind.i64, Kd.int IntKind.i64, Kd.int IntKind.i64, Kd.int IntKind.i64] (nx5_6_5 t0 t1 t2 t8 t9 b4)]) else bif xc5_6_0 t0 t1 t2 t8 t9 b4 then some (Ex.ret, [AV.sl Tk.imm [Kd.int IntKind.u16] t1, AV.int IntKind.u8 t2, AV.bool false, AV.rf (nat_lit 4) [Kd.int IntKind.i64, Kd.int IntKind.i64, Kd.int IntKind.i64, Kd.int IntKind.i64], AV.int IntKind.i64 t8], [Blk.dead, Blk.row [Kd.int IntKind.i64, Kd.int IntKind.i64, Kd.int IntKind.i64, Kd.int IntKind.i64] b4]) else bif xc5_6_1 t0 t1 t2 t8 t9 b4 then some (Ex.exit (nat_lit 0), [AV.sl Tk.imm [Kd.int IntKind.u16] t1, AV.int IntKind.u8 t2, AV.junk, AV.rf (nat_lit 4) [Kd.int IntKind.i64, Kd.int IntKind.i64, Kd.int IntKind.i64, Kd.int IntKind.i64], AV.int IntKind.i64 t8], [Blk.dead, Blk.row [Kd.int IntKind.i64, Kd.int IntKind.i64, Kd.int IntKind.i64, Kd.int IntKind.i64] b4]) else none := by
  have h : roundV (cfg Try.prog tab 100000 (gk k18t 30) rest 5 0 Try.f5.ntmps) (loopAt Try.f5 6) [0, 1, 2, 7, 8, 9] [2, 4] [1, 2, 6, 7, 8] [2, 4] [AV.sl Tk.imm [Kd.int IntKind.u8] t0, AV.sl Tk.imm [Kd.int IntKind.u16] t1, AV.int IntKind.u8 t2, AV.rf (nat_lit 4) [Kd.int IntKind.i64, Kd.int IntKind.i64, Kd.int IntKind.i64, Kd.int IntKind.i64], AV.int IntKind.i64 t8, AV.int IntKind.i64 t9] [Blk.dead, Blk.row [Kd.int IntKind.i64, Kd.int IntKind.i64, Kd.int IntKind.i64, Kd.int IntKind.i64] b4] = bif decide (t9 < (↑t0.length : Int)) then bif decide ((0 : Int) ≤ t9) && decide (t9 < (↑t0.length : Int)) then bif vev11_1 (IntKind.i64.wrap ((1 : Int) + IntKind.i64.wrap ((intOf ((t0.getD t9.toNat []).getD (0 : Nat) AV.junk)).tmod (16 : Int)))) != (0 : Int) then some (Ex.ret, [AV.sl Tk.imm [Kd.int IntKind.u16] t1, AV.int IntKind.u8 t2, AV.bool false, AV.rf (nat_lit 4) [Kd.int IntKind.i64, Kd.int IntKind.i64, Kd.int IntKind.i64, Kd.int IntKind.i64], AV.int IntKind.i64 t8], [Blk.dead, Blk.row [Kd.int IntKind.i64, Kd.int IntKind.i64, Kd.int IntKind.i64, Kd.int IntKind.i64] b4]) else bif bif decide ((b4.length + (1 : Nat)) * (32 : Nat) ≤ (140737488355328 : Nat)) then decide (b4.length + (1 : Nat) ≤ (9223372036854775807 : Nat)) else false then some (Ex.norm, [AV.sl Tk.imm [Kd.int IntKind.u8] t0, AV.sl Tk.imm [Kd.int IntKind.u16] t1, AV.int IntKind.u8 t2, AV.rf (nat_lit 4) [Kd.int IntKind.i64, Kd.int IntKind.i64, Kd.int IntKind.i64, Kd.int IntKind.i64], AV.int IntKind.i64 t8, AV.int IntKind.i64 (IntKind.i64.wrap (t9 + (1 : Int)))], [Blk.dead, Blk.row [Kd.int IntKind.i64, Kd.int IntKind.i64, Kd.int IntKind.i64, Kd.int IntKind.i64] (b4 ++ [[AV.int IntKind.i64 (vev11_0 (IntKind.i64.wrap ((1 : Int) + IntKind.i64.wrap ((intOf ((t0.getD t9.toNat []).getD (0 : Nat) AV.junk)).tmod (16 : Int))))), AV.int IntKind.i64 (0 : Int), AV.int IntKind.i64 (0 : Int), AV.int IntKind.i64 (0 : Int)]])]) else none else none else some (Ex.exit (nat_lit 0), [AV.sl Tk.imm [Kd.int IntKind.u16] t1, AV.int IntKind.u8 t2, AV.junk, AV.rf (nat_lit 4) [Kd.int IntKind.i64, Kd.int IntKind.i64, Kd.int IntKind.i64, Kd.int IntKind.i64], AV.int IntKind.i64 t8], [Blk.dead, Blk.row [Kd.int IntKind.i64, Kd.int IntKind.i64, Kd.int IntKind.i64, Kd.int IntKind.i64] b4]) := by kernel_rfl
  rw [h]
  clear h
  unfold go5_6 nx5_6_4 nx5_6_5 xc5_6_0 xc5_6_1
  generalize (decide ((b4.length + (1 : Nat)) * (32 : Nat) ≤ (140737488355328 : Nat))) = c0
  generalize (vev11_1 (IntKind.i64.wrap ((1 : Int) + IntKind.i64.wrap ((intOf ((t0.getD t9.toNat []).getD (0 : Nat) AV.junk)).tmod (16 : Int)))) != (0 : Int)) = c1
  generalize (decide (b4.length + (1 : Nat) ≤ (9223372036854775807 : Nat))) = c2
  generalize (decide ((0 : Int) ≤ t9) && decide (t9 < (↑t0.length : Int))) = c3
  generalize (decide (t9 < (↑t0.length : Int))) = c4
  cases c4
  · skip
    rfl
  · skip
    cases c3
    · skip
      rfl
    · skip
      cases c1
      · skip
        cases c0
        · skip
          rfl
        · skip
          cases c2
          · skip
            rfl
          · skip
            rfl
      · skip
        rfl
abbrev pl5_6 : Type := (List (List AV)) × (List (List AV)) × Int × Int
abbrev sl5_6 : Type := Int × (List (List AV))
noncomputable def vt5_6 (a : pl5_6 × sl5_6) : List AV := [AV.sl Tk.imm [Kd.int IntKind.u8] a.1.1, AV.sl Tk.imm [Kd.int IntKind.u16] a.1.2.1, AV.int IntKind.u8 a.1.2.2.1, AV.rf (nat_lit 4) [Kd.int IntKind.i64, Kd.int IntKind.i64, Kd.int IntKind.i64, Kd.int IntKind.i64], AV.int IntKind.i64 a.1.2.2.2, AV.int IntKind.i64 a.2.1]
noncomputable def vc5_6 (a : pl5_6 × sl5_6) : List Blk := [Blk.dead, Blk.row [Kd.int IntKind.i64, Kd.int IntKind.i64, Kd.int IntKind.i64, Kd.int IntKind.i64] a.2.2]
noncomputable def de5_6 (vt : List AV) (vc : List Blk) : Option (pl5_6 × sl5_6) :=
  match vt with
  | [qa0, qa1, qa2, qa3, qa4, qa5] => (match vc with
  | [qb0, qb1] => (match qa0 with
  | AV.sl Tk.imm [Kd.int IntKind.u8] t0 => (match qa1 with
  | AV.sl Tk.imm [Kd.int IntKind.u16] t1 => (match qa2 with
  | AV.int IntKind.u8 t2 => (match qa3 with
  | AV.rf (4) [Kd.int IntKind.i64, Kd.int IntKind.i64, Kd.int IntKind.i64, Kd.int IntKind.i64] => (match qa4 with
  | AV.int IntKind.i64 t8 => (match qa5 with
  | AV.int IntKind.i64 t9 => (match qb0 with
  | Blk.dead => (match qb1 with
  | Blk.row [Kd.int IntKind.i64, Kd.int IntKind.i64, Kd.int IntKind.i64, Kd.int IntKind.i64] b4 => (some ((t0, t1, t2, t8), (t9, b4)))
  | _ => none)
  | _ => none)
  | _ => none)
  | _ => none)
  | _ => none)
  | _ => none)
  | _ => none)
  | _ => none)
  | _ => none)
  | _ => none
theorem de5_6_ok (vt : List AV) (vc : List Blk) (a : pl5_6 × sl5_6) (h : de5_6 vt vc = some a) : vt = vt5_6 a ∧ vc = vc5_6 a := by
  unfold de5_6 at h
  split at h
  rotate_left
  · cases h
  split at h
  rotate_left
  · cases h
  split at h
  rotate_left
  · cases h
  split at h
  rotate_left
  · cases h
  split at h
  rotate_left
  · cases h
  split at h
  rotate_left
  · cases h
  split at h
  rotate_left
  · cases h
  split at h
  rotate_left
  · cases h
  split at h
  rotate_left
  · cases h
  split at h
  rotate_left
  · cases h
  injection h with h
  subst h
  exact ⟨rfl, rfl⟩
noncomputable def g5_6 (p : pl5_6) (s : sl5_6) : Bool := go5_6 p.1 p.2.1 p.2.2.1 p.2.2.2 s.1 s.2
noncomputable def n5_6 (p : pl5_6) (s : sl5_6) : sl5_6 := (nx5_6_4 p.1 p.2.1 p.2.2.1 p.2.2.2 s.1 s.2, nx5_6_5 p.1 p.2.1 p.2.2.1 p.2.2.2 s.1 s.2)
noncomputable def y5_6 (p : pl5_6) (s : sl5_6) : List (Bool × Out) := [(xc5_6_0 p.1 p.2.1 p.2.2.1 p.2.2.2 s.1 s.2, (Ex.ret, [AV.sl Tk.imm [Kd.int IntKind.u16] p.2.1, AV.int IntKind.u8 p.2.2.1, AV.bool false, AV.rf (nat_lit 4) [Kd.int IntKind.i64, Kd.int IntKind.i64, Kd.int IntKind.i64, Kd.int IntKind.i64], AV.int IntKind.i64 p.2.2.2], [Blk.dead, Blk.row [Kd.int IntKind.i64, Kd.int IntKind.i64, Kd.int IntKind.i64, Kd.int IntKind.i64] s.2]))]
noncomputable def z5_6 (p : pl5_6) (s : sl5_6) : Bool := xc5_6_1 p.1 p.2.1 p.2.2.1 p.2.2.2 s.1 s.2
noncomputable def d5_6 (p : pl5_6) (s : sl5_6) : Out := (Ex.exit (nat_lit 0), [AV.sl Tk.imm [Kd.int IntKind.u16] p.2.1, AV.int IntKind.u8 p.2.2.1, AV.junk, AV.rf (nat_lit 4) [Kd.int IntKind.i64, Kd.int IntKind.i64, Kd.int IntKind.i64, Kd.int IntKind.i64], AV.int IntKind.i64 p.2.2.2], [Blk.dead, Blk.row [Kd.int IntKind.i64, Kd.int IntKind.i64, Kd.int IntKind.i64, Kd.int IntKind.i64] s.2])
noncomputable def ls5_6 : St → Option (Bool × List (Bool × Ex × St) × Ex × St) := lspOf [0, 1, 2, 7, 8, 9] [2, 4] [1, 2, 6, 7, 8] [2, 4] Try.f5.ntmps (0 + tab.nid 5) de5_6 (spI g5_6 n5_6 y5_6 z5_6 d5_6)
theorem lo5_6 (rest : Lsp) : LoopOK1 (cfg Try.prog tab 100000 (gk k18t 30) (selL 6 ls5_6 rest) 5 0 Try.f5.ntmps) (loopAt Try.f5 6) := LoopOK1.iter (i := 6) (by kernel_rfl) [0, 1, 2, 7, 8, 9] [2, 4] [1, 2, 6, 7, 8] [2, 4] vt5_6 vc5_6 de5_6 g5_6 n5_6 y5_6 z5_6 d5_6 (fun _ => rfl) de5_6_ok (fun p s => rd5_6 (selL 6 ls5_6 rest) (p.1) (p.2.1) (p.2.2.1) (p.2.2.2) (s.1) (s.2)) (fun _ _ => rfl)
noncomputable def go5_14 (t1 : List (List AV)) (t2 : Int) (t8 : Int) (t14 : Int) (b4 : List (List AV)) (b5 : List (List AV)) (b6 : List (List AV)) : Bool := bif decide (t14 < (↑t1.length : Int)) then bif decide ((0 : Int) ≤ t14) && decide (t14 < (↑t1.length : Int)) then bif decide (t14 < IntKind.i64.wrap t2) then bif bif decide ((b6.length + (1 : Nat)) * (8 : Nat) ≤ (140737488355328 : Nat)) then decide (b6.length + (1 : Nat) ≤ (9223372036854775807 : Nat)) else false then bif decide ((b5.length + (1 : Nat)) * (8 : Nat) ≤ (140737488355328 : Nat)) then decide (b5.length + (1 : Nat) ≤ (9223372036854775807 : Nat)) else false else false else bif decide ((b5.length + (1 : Nat)) * (8 : Nat) ≤ (140737488355328 : Nat)) then decide (b5.length + (1 : Nat) ≤ (9223372036854775807 : Nat)) else false else false else false
noncomputable def nx5_14_2 (t1 : List (List AV)) (t2 : Int) (t8 : Int) (t14 : Int) (b4 : List (List AV)) (b5 : List (List AV)) (b6 : List (List AV)) : Int := if if true = true then t8 < IntKind.i64.wrap ((1 : Int) + IntKind.i64.wrap (intOf ((t1.getD t14.toNat []).getD (0 : Nat) AV.junk))) else IntKind.i64.wrap ((1 : Int) + IntKind.i64.wrap (intOf ((t1.getD t14.toNat []).getD (0 : Nat) AV.junk))) < t8 then IntKind.i64.wrap ((1 : Int) + IntKind.i64.wrap (intOf ((t1.getD t14.toNat []).getD (0 : Nat) AV.junk))) else t8
noncomputable def nx5_14_3 (t1 : List (List AV)) (t2 : Int) (t8 : Int) (t14 : Int) (b4 : List (List AV)) (b5 : List (List AV)) (b6 : List (List AV)) : Int := IntKind.i64.wrap (t14 + (1 : Int))
noncomputable def nx5_14_5 (t1 : List (List AV)) (t2 : Int) (t8 : Int) (t14 : Int) (b4 : List (List AV)) (b5 : List (List AV)) (b6 : List (List AV)) : List (List AV) := b5 ++ [[AV.int IntKind.i64 (IntKind.i64.wrap ((1 : Int) + IntKind.i64.wrap (intOf ((t1.getD t14.toNat []).getD (0 : Nat) AV.junk))))]]
noncomputable def nx5_14_6 (t1 : List (List AV)) (t2 : Int) (t8 : Int) (t14 : Int) (b4 : List (List AV)) (b5 : List (List AV)) (b6 : List (List AV)) : List (List AV) := bif decide (t14 < IntKind.i64.wrap t2) then b6 ++ [[AV.int IntKind.i64 (IntKind.i64.wrap ((1 : Int) + IntKind.i64.wrap (intOf ((t1.getD t14.toNat []).getD (0 : Nat) AV.junk))))]] else b6
noncomputable def xc5_14_0 (t1 : List (List AV)) (t2 : Int) (t8 : Int) (t14 : Int) (b4 : List (List AV)) (b5 : List (List AV)) (b6 : List (List AV)) : Bool := bif decide (t14 < (↑t1.length : Int)) then false else true
theorem rd5_14 (rest : Lsp) (t1 : List (List AV)) (t2 : Int) (t8 : Int) (t14 : Int) (b4 : List (List AV)) (b5 : List (List AV)) (b6 : List (List AV)) : roundV (cfg Try.prog tab 100000 (gk k18t 30) (selL 6 ls5_6 rest) 5 0 Try.f5.ntmps) (loopAt Try.f5 14) [1, 2, 7, 8, 12, 13, 14] [0, 1, 2, 4, 5, 6] [7, 8, 12, 13] [0, 1, 2, 4, 5, 6] [AV.sl Tk.imm [Kd.int IntKind.u16] t1, AV.int IntKind.u8 t2, AV.rf (nat_lit 4) [Kd.int IntKind.i64, Kd.int IntKind.i64, Kd.int IntKind.i64, Kd.int IntKind.i64], AV.int IntKind.i64 t8, AV.rf (nat_lit 6) [Kd.int IntKind.i64], AV.rf (nat_lit 5) [Kd.int IntKind.i64], AV.int IntKind.i64 t14] [Blk.dead, Blk.dead, Blk.dead, Blk.row [Kd.int IntKind.i64, Kd.int IntKind.i64, Kd.int IntKind.i64, Kd.int IntKind.i64] b4, Blk.row [Kd.int IntKind.i64] b5, Blk.row [Kd.int IntKind.i64] b6] = bif go5_14 t1 t2 t8 t14 b4 b5 b6 then some (Ex.norm, [AV.sl Tk.imm [Kd.int IntKind.u16] t1, AV.int IntKind.u8 t2, AV.rf (nat_lit 4) [Kd.int IntKind.i64, Kd.int IntKind.i64, Kd.int IntKind.i64, Kd.int IntKind.i64], AV.int IntKind.i64 (nx5_14_2 t1 t2 t8 t14 b4 b5 b6), AV.rf (nat_lit 6) [Kd.int IntKind.i64], AV.rf (nat_lit 5) [Kd.int IntKind.i64], AV.int IntKind.i64 (nx5_14_3 t1 t2 t8 t14 b4 b5 b6)], [Blk.dead, Blk.dead, Blk.dead, Blk.row [Kd.int IntKind.i64, Kd.int IntKind.i64, Kd.int IntKind.i64, Kd.int IntKind.i64] b4, Blk.row [Kd.int IntKind.i64] (nx5_14_5 t1 t2 t8 t14 b4 b5 b6), Blk.row [Kd.int IntKind.i64] (nx5_14_6 t1 t2 t8 t14 b4 b5 b6)]) else bif xc5_14_0 t1 t2 t8 t14 b4 b5 b6 then some (Ex.exit (nat_lit 2), [AV.rf (nat_lit 4) [Kd.int IntKind.i64, Kd.int IntKind.i64, Kd.int IntKind.i64, Kd.int IntKind.i64], AV.int IntKind.i64 t8, AV.rf (nat_lit 6) [Kd.int IntKind.i64], AV.rf (nat_lit 5) [Kd.int IntKind.i64]], [Blk.dead, Blk.dead, Blk.dead, Blk.row [Kd.int IntKind.i64, Kd.int IntKind.i64, Kd.int IntKind.i64, Kd.int IntKind.i64] b4, Blk.row [Kd.int IntKind.i64] b5, Blk.row [Kd.int IntKind.i64] b6]) else none := by
  have h : roundV (cfg Try.prog tab 100000 (gk k18t 30) (selL 6 ls5_6 rest) 5 0 Try.f5.ntmps) (loopAt Try.f5 14) [1, 2, 7, 8, 12, 13, 14] [0, 1, 2, 4, 5, 6] [7, 8, 12, 13] [0, 1, 2, 4, 5, 6] [AV.sl Tk.imm [Kd.int IntKind.u16] t1, AV.int IntKind.u8 t2, AV.rf (nat_lit 4) [Kd.int IntKind.i64, Kd.int IntKind.i64, Kd.int IntKind.i64, Kd.int IntKind.i64], AV.int IntKind.i64 t8, AV.rf (nat_lit 6) [Kd.int IntKind.i64], AV.rf (nat_lit 5) [Kd.int IntKind.i64], AV.int IntKind.i64 t14] [Blk.dead, Blk.dead, Blk.dead, Blk.row [Kd.int IntKind.i64, Kd.int IntKind.i64, Kd.int IntKind.i64, Kd.int IntKind.i64] b4, Blk.row [Kd.int IntKind.i64] b5, Blk.row [Kd.int IntKind.i64] b6] = bif decide (t14 < (↑t1.length : Int)) then bif decide ((0 : Int) ≤ t14) && decide (t14 < (↑t1.length : Int)) then bif decide (t14 < IntKind.i64.wrap t2) then bif bif decide ((b6.length + (1 : Nat)) * (8 : Nat) ≤ (140737488355328 : Nat)) then decide (b6.length + (1 : Nat) ≤ (9223372036854775807 : Nat)) else false then bif bif decide ((b5.length + (1 : Nat)) * (8 : Nat) ≤ (140737488355328 : Nat)) then decide (b5.length + (1 : Nat) ≤ (9223372036854775807 : Nat)) else false then some (Ex.norm, [AV.sl Tk.imm [Kd.int IntKind.u16] t1, AV.int IntKind.u8 t2, AV.rf (nat_lit 4) [Kd.int IntKind.i64, Kd.int IntKind.i64, Kd.int IntKind.i64, Kd.int IntKind.i64], AV.int IntKind.i64 (if if true = true then t8 < IntKind.i64.wrap ((1 : Int) + IntKind.i64.wrap (intOf ((t1.getD t14.toNat []).getD (0 : Nat) AV.junk))) else IntKind.i64.wrap ((1 : Int) + IntKind.i64.wrap (intOf ((t1.getD t14.toNat []).getD (0 : Nat) AV.junk))) < t8 then IntKind.i64.wrap ((1 : Int) + IntKind.i64.wrap (intOf ((t1.getD t14.toNat []).getD (0 : Nat) AV.junk))) else t8), AV.rf (nat_lit 6) [Kd.int IntKind.i64], AV.rf (nat_lit 5) [Kd.int IntKind.i64], AV.int IntKind.i64 (IntKind.i64.wrap (t14 + (1 : Int)))], [Blk.dead, Blk.dead, Blk.dead, Blk.row [Kd.int IntKind.i64, Kd.int IntKind.i64, Kd.int IntKind.i64, Kd.int IntKind.i64] b4, Blk.row [Kd.int IntKind.i64] (b5 ++ [[AV.int IntKind.i64 (IntKind.i64.wrap ((1 : Int) + IntKind.i64.wrap (intOf ((t1.getD t14.toNat []).getD (0 : Nat) AV.junk))))]]), Blk.row [Kd.int IntKind.i64] (b6 ++ [[AV.int IntKind.i64 (IntKind.i64.wrap ((1 : Int) + IntKind.i64.wrap (intOf ((t1.getD t14.toNat []).getD (0 : Nat) AV.junk))))]])]) else none else none else bif bif decide ((b5.length + (1 : Nat)) * (8 : Nat) ≤ (140737488355328 : Nat)) then decide (b5.length + (1 : Nat) ≤ (9223372036854775807 : Nat)) else false then some (Ex.norm, [AV.sl Tk.imm [Kd.int IntKind.u16] t1, AV.int IntKind.u8 t2, AV.rf (nat_lit 4) [Kd.int IntKind.i64, Kd.int IntKind.i64, Kd.int IntKind.i64, Kd.int IntKind.i64], AV.int IntKind.i64 (if if true = true then t8 < IntKind.i64.wrap ((1 : Int) + IntKind.i64.wrap (intOf ((t1.getD t14.toNat []).getD (0 : Nat) AV.junk))) else IntKind.i64.wrap ((1 : Int) + IntKind.i64.wrap (intOf ((t1.getD t14.toNat []).getD (0 : Nat) AV.junk))) < t8 then IntKind.i64.wrap ((1 : Int) + IntKind.i64.wrap (intOf ((t1.getD t14.toNat []).getD (0 : Nat) AV.junk))) else t8), AV.rf (nat_lit 6) [Kd.int IntKind.i64], AV.rf (nat_lit 5) [Kd.int IntKind.i64], AV.int IntKind.i64 (IntKind.i64.wrap (t14 + (1 : Int)))], [Blk.dead, Blk.dead, Blk.dead, Blk.row [Kd.int IntKind.i64, Kd.int IntKind.i64, Kd.int IntKind.i64, Kd.int IntKind.i64] b4, Blk.row [Kd.int IntKind.i64] (b5 ++ [[AV.int IntKind.i64 (IntKind.i64.wrap ((1 : Int) + IntKind.i64.wrap (intOf ((t1.getD t14.toNat []).getD (0 : Nat) AV.junk))))]]), Blk.row [Kd.int IntKind.i64] b6]) else none else none else some (Ex.exit (nat_lit 2), [AV.rf (nat_lit 4) [Kd.int IntKind.i64, Kd.int IntKind.i64, Kd.int IntKind.i64, Kd.int IntKind.i64], AV.int IntKind.i64 t8, AV.rf (nat_lit 6) [Kd.int IntKind.i64], AV.rf (nat_lit 5) [Kd.int IntKind.i64]], [Blk.dead, Blk.dead, Blk.dead, Blk.row [Kd.int IntKind.i64, Kd.int IntKind.i64, Kd.int IntKind.i64, Kd.int IntKind.i64] b4, Blk.row [Kd.int IntKind.i64] b5, Blk.row [Kd.int IntKind.i64] b6]) := by kernel_rfl
  rw [h]
  clear h
  unfold go5_14 nx5_14_2 nx5_14_3 nx5_14_5 nx5_14_6 xc5_14_0
  generalize (decide ((b5.length + (1 : Nat)) * (8 : Nat) ≤ (140737488355328 : Nat))) = c0
  generalize (decide ((b6.length + (1 : Nat)) * (8 : Nat) ≤ (140737488355328 : Nat))) = c1
  generalize (decide (b5.length + (1 : Nat) ≤ (9223372036854775807 : Nat))) = c2
  generalize (decide (b6.length + (1 : Nat) ≤ (9223372036854775807 : Nat))) = c3
  generalize (decide ((0 : Int) ≤ t14) && decide (t14 < (↑t1.length : Int))) = c4
  generalize (decide (t14 < (↑t1.length : Int))) = c5
  generalize (decide (t14 < IntKind.i64.wrap t2)) = c6
  cases c5
  · skip
    rfl
  · skip
    cases c4
    · skip
      rfl
    · skip
      cases c6
      · skip
        cases c0
        · skip
          rfl
        · skip
          cases c2
          · skip
            rfl
          · skip
            rfl
      · skip
        cases c1
        · skip
          rfl
        · skip
          cases c3
          · skip
            rfl
          · skip
            cases c0
            · skip
              rfl
            · skip
              cases c2
              · skip
                rfl
              · skip
                rfl
abbrev pl5_14 : Type := (List (List AV)) × Int × (List (List AV))
abbrev sl5_14 : Type := Int × Int × (List (List AV)) × (List (List AV))
noncomputable def vt5_14 (a : pl5_14 × sl5_14) : List AV := [AV.sl Tk.imm [Kd.int IntKind.u16] a.1.1, AV.int IntKind.u8 a.1.2.1, AV.rf (nat_lit 4) [Kd.int IntKind.i64, Kd.int IntKind.i64, Kd.int IntKind.i64, Kd.int IntKind.i64], AV.int IntKind.i64 a.2.1, AV.rf (nat_lit 6) [Kd.int IntKind.i64], AV.rf (nat_lit 5) [Kd.int IntKind.i64], AV.int IntKind.i64 a.2.2.1]
noncomputable def vc5_14 (a : pl5_14 × sl5_14) : List Blk := [Blk.dead, Blk.dead, Blk.dead, Blk.row [Kd.int IntKind.i64, Kd.int IntKind.i64, Kd.int IntKind.i64, Kd.int IntKind.i64] a.1.2.2, Blk.row [Kd.int IntKind.i64] a.2.2.2.1, Blk.row [Kd.int IntKind.i64] a.2.2.2.2]
noncomputable def de5_14 (vt : List AV) (vc : List Blk) : Option (pl5_14 × sl5_14) :=
  match vt with
  | [qa0, qa1, qa2, qa3, qa4, qa5, qa6] => (match vc with
  | [qb0, qb1, qb2, qb3, qb4, qb5] => (match qa0 with
  | AV.sl Tk.imm [Kd.int IntKind.u16] t1 => (match qa1 with
  | AV.int IntKind.u8 t2 => (match qa2 with
  | AV.rf (4) [Kd.int IntKind.i64, Kd.int IntKind.i64, Kd.int IntKind.i64, Kd.int IntKind.i64] => (match qa3 with
  | AV.int IntKind.i64 t8 => (match qa4 with
  | AV.rf (6) [Kd.int IntKind.i64] => (match qa5 with
  | AV.rf (5) [Kd.int IntKind.i64] => (match qa6 with
  | AV.int IntKind.i64 t14 => (match qb0 with
  | Blk.dead => (match qb1 with
  | Blk.dead => (match qb2 with
  | Blk.dead => (match qb3 with
  | Blk.row [Kd.int IntKind.i64, Kd.int IntKind.i64, Kd.int IntKind.i64, Kd.int IntKind.i64] b4 => (match qb4 with
  | Blk.row [Kd.int IntKind.i64] b5 => (match qb5 with
  | Blk.row [Kd.int IntKind.i64] b6 => (some ((t1, t2, b4), (t8, t14, b5, b6)))
  | _ => none)
  | _ => none)
  | _ => none)
  | _ => none)
  | _ => none)
  | _ => none)
  | _ => none)
  | _ => none)
  | _ => none)
  | _ => none)
  | _ => none)
  | _ => none)
  | _ => none)
  | _ => none)
  | _ => none
theorem de5_14_ok (vt : List AV) (vc : List Blk) (a : pl5_14 × sl5_14) (h : de5_14 vt vc = some a) : vt = vt5_14 a ∧ vc = vc5_14 a := by
  unfold de5_14 at h
  split at h
  rotate_left
  · cases h
  split at h
  rotate_left
  · cases h
  split at h
  rotate_left
  · cases h
  split at h
  rotate_left
  · cases h
  split at h
  rotate_left
  · cases h
  split at h
  rotate_left
  · cases h
  split at h
  rotate_left
  · cases h
  split at h
  rotate_left
  · cases h
  split at h
  rotate_left
  · cases h
  split at h
  rotate_left
  · cases h
  split at h
  rotate_left
  · cases h
  split at h
  rotate_left
  · cases h
  split at h
  rotate_left
  · cases h
  split at h
  rotate_left
  · cases h
  split at h
  rotate_left
  · cases h
  injection h with h
  subst h
  exact ⟨rfl, rfl⟩
noncomputable def g5_14 (p : pl5_14) (s : sl5_14) : Bool := go5_14 p.1 p.2.1 s.1 s.2.1 p.2.2 s.2.2.1 s.2.2.2
noncomputable def n5_14 (p : pl5_14) (s : sl5_14) : sl5_14 := (nx5_14_2 p.1 p.2.1 s.1 s.2.1 p.2.2 s.2.2.1 s.2.2.2, nx5_14_3 p.1 p.2.1 s.1 s.2.1 p.2.2 s.2.2.1 s.2.2.2, nx5_14_5 p.1 p.2.1 s.1 s.2.1 p.2.2 s.2.2.1 s.2.2.2, nx5_14_6 p.1 p.2.1 s.1 s.2.1 p.2.2 s.2.2.1 s.2.2.2)
noncomputable def y5_14 (p : pl5_14) (s : sl5_14) : List (Bool × Out) := []
noncomputable def z5_14 (p : pl5_14) (s : sl5_14) : Bool := xc5_14_0 p.1 p.2.1 s.1 s.2.1 p.2.2 s.2.2.1 s.2.2.2
noncomputable def d5_14 (p : pl5_14) (s : sl5_14) : Out := (Ex.exit (nat_lit 2), [AV.rf (nat_lit 4) [Kd.int IntKind.i64, Kd.int IntKind.i64, Kd.int IntKind.i64, Kd.int IntKind.i64], AV.int IntKind.i64 s.1, AV.rf (nat_lit 6) [Kd.int IntKind.i64], AV.rf (nat_lit 5) [Kd.int IntKind.i64]], [Blk.dead, Blk.dead, Blk.dead, Blk.row [Kd.int IntKind.i64, Kd.int IntKind.i64, Kd.int IntKind.i64, Kd.int IntKind.i64] p.2.2, Blk.row [Kd.int IntKind.i64] s.2.2.1, Blk.row [Kd.int IntKind.i64] s.2.2.2])
noncomputable def ls5_14 : St → Option (Bool × List (Bool × Ex × St) × Ex × St) := lspOf [1, 2, 7, 8, 12, 13, 14] [0, 1, 2, 4, 5, 6] [7, 8, 12, 13] [0, 1, 2, 4, 5, 6] Try.f5.ntmps (0 + tab.nid 5) de5_14 (spI g5_14 n5_14 y5_14 z5_14 d5_14)
theorem lo5_14 (rest : Lsp) : LoopOK1 (cfg Try.prog tab 100000 (gk k18t 30) (selL 6 ls5_6 (selL 14 ls5_14 rest)) 5 0 Try.f5.ntmps) (loopAt Try.f5 14) := LoopOK1.iter (i := 14) (by kernel_rfl) [1, 2, 7, 8, 12, 13, 14] [0, 1, 2, 4, 5, 6] [7, 8, 12, 13] [0, 1, 2, 4, 5, 6] vt5_14 vc5_14 de5_14 g5_14 n5_14 y5_14 z5_14 d5_14 (fun _ => rfl) de5_14_ok (fun p s => rd5_14 (selL 14 ls5_14 rest) (p.1) (p.2.1) (s.1) (s.2.1) (p.2.2) (s.2.2.1) (s.2.2.2)) (fun _ _ => rfl)
noncomputable def go5_29 (t8 : Int) (t16 : List (List AV)) (t18 : List (List AV)) (t20 : Int) (t21 : Int) (b4 : List (List AV)) : Bool := bif decide (t21 < t20) then bif decide ((0 : Int) ≤ t20) && decide (t20 < (↑t18.length : Int)) then bif vev9_2 t8 (intOf ((t18.getD t20.toNat []).getD (0 : Nat) AV.junk)) then bif decide ((0 : Int) ≤ t21) && decide (t21 < (↑t18.length : Int)) then bif vev9_2 t8 (intOf ((t18.getD t21.toNat []).getD (0 : Nat) AV.junk)) then bif bif vev9_1 t8 (intOf ((t18.getD t20.toNat []).getD (0 : Nat) AV.junk)) != (0 : Int) then true else bif vev9_1 t8 (intOf ((t18.getD t21.toNat []).getD (0 : Nat) AV.junk)) != (0 : Int) then true else bif decide ((0 : Int) ≤ t20) && decide (t20 < (↑t18.length : Int)) then bif decide ((0 : Int) ≤ t21) && decide (t21 < (↑t18.length : Int)) then bif decide ((0 : Int) ≤ t20) && decide (t20 < (↑t16.length : Int)) then decide ((0 : Int) ≤ t21) && decide (t21 < (↑t16.length : Int)) else false else false else false then bif bif vev9_1 t8 (intOf ((t18.getD t20.toNat []).getD (0 : Nat) AV.junk)) != (0 : Int) then true else bif vev9_1 t8 (intOf ((t18.getD t21.toNat []).getD (0 : Nat) AV.junk)) != (0 : Int) then true else bif decide ((0 : Int) ≤ t20) && decide (t20 < (↑t18.length : Int)) then bif decide ((0 : Int) ≤ t21) && decide (t21 < (↑t18.length : Int)) then bif decide ((0 : Int) ≤ t20) && decide (t20 < (↑t16.length : Int)) then bif decide ((0 : Int) ≤ t21) && decide (t21 < (↑t16.length : Int)) then !vev26_0 (intOf ((t18.getD t20.toNat []).getD (0 : Nat) AV.junk)) (intOf ((t18.getD t20.toNat []).getD ((0 : Nat) + (1 : Nat)) AV.junk)) (intOf ((t18.getD t20.toNat []).getD ((0 : Nat) + (1 : Nat) + (1 : Nat)) AV.junk)) (intOf ((t18.getD t20.toNat []).getD ((0 : Nat) + (1 : Nat) + (1 : Nat) + (1 : Nat)) AV.junk)) (intOf ((t18.getD t21.toNat []).getD (0 : Nat) AV.junk)) (intOf ((t18.getD t21.toNat []).getD ((0 : Nat) + (1 : Nat)) AV.junk)) (intOf ((t18.getD t21.toNat []).getD ((0 : Nat) + (1 : Nat) + (1 : Nat)) AV.junk)) (intOf ((t18.getD t21.toNat []).getD ((0 : Nat) + (1 : Nat) + (1 : Nat) + (1 : Nat)) AV.junk)) (intOf ((t16.getD t20.toNat []).getD ((0 : Nat) + (1 : Nat) + (1 : Nat) + (1 : Nat)) AV.junk)) (intOf ((t16.getD t21.toNat []).getD ((0 : Nat) + (1 : Nat) + (1 : Nat) + (1 : Nat)) AV.junk)) t8 else false else false else false else false then false else bif bif decide ((0 : Int) ≤ t20) && decide (t20 < (↑t18.length : Int)) then bif decide ((0 : Int) ≤ t21) && decide (t21 < (↑t18.length : Int)) then bif decide (IntKind.i64.wrap (intOf ((t18.getD t20.toNat []).getD ((0 : Nat) + (1 : Nat)) AV.junk) - intOf ((t18.getD t21.toNat []).getD ((0 : Nat) + (1 : Nat)) AV.junk)) > if if true = true then vev9_0 t8 (intOf ((t18.getD t20.toNat []).getD (0 : Nat) AV.junk)) < vev9_0 t8 (intOf ((t18.getD t21.toNat []).getD (0 : Nat) AV.junk)) else vev9_0 t8 (intOf ((t18.getD t21.toNat []).getD (0 : Nat) AV.junk)) < vev9_0 t8 (intOf ((t18.getD t20.toNat []).getD (0 : Nat) AV.junk)) then vev9_0 t8 (intOf ((t18.getD t21.toNat []).getD (0 : Nat) AV.junk)) else vev9_0 t8 (intOf ((t18.getD t20.toNat []).getD (0 : Nat) AV.junk))) then true else bif decide ((0 : Int) ≤ t21) && decide (t21 < (↑t18.length : Int)) then decide ((0 : Int) ≤ t20) && decide (t20 < (↑t18.length : Int)) else false else false else false then bif bif decide ((0 : Int) ≤ t20) && decide (t20 < (↑t18.length : Int)) then bif decide ((0 : Int) ≤ t21) && decide (t21 < (↑t18.length : Int)) then bif decide (IntKind.i64.wrap (intOf ((t18.getD t20.toNat []).getD ((0 : Nat) + (1 : Nat)) AV.junk) - intOf ((t18.getD t21.toNat []).getD ((0 : Nat) + (1 : Nat)) AV.junk)) > if if true = true then vev9_0 t8 (intOf ((t18.getD t20.toNat []).getD (0 : Nat) AV.junk)) < vev9_0 t8 (intOf ((t18.getD t21.toNat []).getD (0 : Nat) AV.junk)) else vev9_0 t8 (intOf ((t18.getD t21.toNat []).getD (0 : Nat) AV.junk)) < vev9_0 t8 (intOf ((t18.getD t20.toNat []).getD (0 : Nat) AV.junk)) then vev9_0 t8 (intOf ((t18.getD t21.toNat []).getD (0 : Nat) AV.junk)) else vev9_0 t8 (intOf ((t18.getD t20.toNat []).getD (0 : Nat) AV.junk))) then true else bif decide ((0 : Int) ≤ t21) && decide (t21 < (↑t18.length : Int)) then bif decide ((0 : Int) ≤ t20) && decide (t20 < (↑t18.length : Int)) then decide (IntKind.i64.wrap (intOf ((t18.getD t21.toNat []).getD ((0 : Nat) + (1 : Nat)) AV.junk) - intOf ((t18.getD t20.toNat []).getD ((0 : Nat) + (1 : Nat)) AV.junk)) > if if true = true then vev9_0 t8 (intOf ((t18.getD t20.toNat []).getD (0 : Nat) AV.junk)) < vev9_0 t8 (intOf ((t18.getD t21.toNat []).getD (0 : Nat) AV.junk)) else vev9_0 t8 (intOf ((t18.getD t21.toNat []).getD (0 : Nat) AV.junk)) < vev9_0 t8 (intOf ((t18.getD t20.toNat []).getD (0 : Nat) AV.junk)) then vev9_0 t8 (intOf ((t18.getD t21.toNat []).getD (0 : Nat) AV.junk)) else vev9_0 t8 (intOf ((t18.getD t20.toNat []).getD (0 : Nat) AV.junk))) else false else false else false else false then false else true else false else false else false else false else false else false else false
noncomputable def nx5_29_4 (t8 : Int) (t16 : List (List AV)) (t18 : List (List AV)) (t20 : Int) (t21 : Int) (b4 : List (List AV)) : Int := IntKind.i64.wrap (t21 + (1 : Int))
noncomputable def xc5_29_0 (t8 : Int) (t16 : List (List AV)) (t18 : List (List AV)) (t20 : Int) (t21 : Int) (b4 : List (List AV)) : Bool := bif decide (t21 < t20) then bif decide ((0 : Int) ≤ t20) && decide (t20 < (↑t18.length : Int)) then bif vev9_2 t8 (intOf ((t18.getD t20.toNat []).getD (0 : Nat) AV.junk)) then bif decide ((0 : Int) ≤ t21) && decide (t21 < (↑t18.length : Int)) then bif vev9_2 t8 (intOf ((t18.getD t21.toNat []).getD (0 : Nat) AV.junk)) then bif bif vev9_1 t8 (intOf ((t18.getD t20.toNat []).getD (0 : Nat) AV.junk)) != (0 : Int) then true else bif vev9_1 t8 (intOf ((t18.getD t21.toNat []).getD (0 : Nat) AV.junk)) != (0 : Int) then true else bif decide ((0 : Int) ≤ t20) && decide (t20 < (↑t18.length : Int)) then bif decide ((0 : Int) ≤ t21) && decide (t21 < (↑t18.length : Int)) then bif decide ((0 : Int) ≤ t20) && decide (t20 < (↑t16.length : Int)) then decide ((0 : Int) ≤ t21) && decide (t21 < (↑t16.length : Int)) else false else false else false then bif bif vev9_1 t8 (intOf ((t18.getD t20.toNat []).getD (0 : Nat) AV.junk)) != (0 : Int) then true else bif vev9_1 t8 (intOf ((t18.getD t21.toNat []).getD (0 : Nat) AV.junk)) != (0 : Int) then true else bif decide ((0 : Int) ≤ t20) && decide (t20 < (↑t18.length : Int)) then bif decide ((0 : Int) ≤ t21) && decide (t21 < (↑t18.length : Int)) then bif decide ((0 : Int) ≤ t20) && decide (t20 < (↑t16.length : Int)) then bif decide ((0 : Int) ≤ t21) && decide (t21 < (↑t16.length : Int)) then !vev26_0 (intOf ((t18.getD t20.toNat []).getD (0 : Nat) AV.junk)) (intOf ((t18.getD t20.toNat []).getD ((0 : Nat) + (1 : Nat)) AV.junk)) (intOf ((t18.getD t20.toNat []).getD ((0 : Nat) + (1 : Nat) + (1 : Nat)) AV.junk)) (intOf ((t18.getD t20.toNat []).getD ((0 : Nat) + (1 : Nat) + (1 : Nat) + (1 : Nat)) AV.junk)) (intOf ((t18.getD t21.toNat []).getD (0 : Nat) AV.junk)) (intOf ((t18.getD t21.toNat []).getD ((0 : Nat) + (1 : Nat)) AV.junk)) (intOf ((t18.getD t21.toNat []).getD ((0 : Nat) + (1 : Nat) + (1 : Nat)) AV.junk)) (intOf ((t18.getD t21.toNat []).getD ((0 : Nat) + (1 : Nat) + (1 : Nat) + (1 : Nat)) AV.junk)) (intOf ((t16.getD t20.toNat []).getD ((0 : Nat) + (1 : Nat) + (1 : Nat) + (1 : Nat)) AV.junk)) (intOf ((t16.getD t21.toNat []).getD ((0 : Nat) + (1 : Nat) + (1 : Nat) + (1 : Nat)) AV.junk)) t8 else false else false else false else false then true else bif bif decide ((0 : Int) ≤ t20) && decide (t20 < (↑t18.length : Int)) then bif decide ((0 : Int) ≤ t21) && decide (t21 < (↑t18.length : Int)) then bif decide (IntKind.i64.wrap (intOf ((t18.getD t20.toNat []).getD ((0 : Nat) + (1 : Nat)) AV.junk) - intOf ((t18.getD t21.toNat []).getD ((0 : Nat) + (1 : Nat)) AV.junk)) > if if true = true then vev9_0 t8 (intOf ((t18.getD t20.toNat []).getD (0 : Nat) AV.junk)) < vev9_0 t8 (intOf ((t18.getD t21.toNat []).getD (0 : Nat) AV.junk)) else vev9_0 t8 (intOf ((t18.getD t21.toNat []).getD (0 : Nat) AV.junk)) < vev9_0 t8 (intOf ((t18.getD t20.toNat []).getD (0 : Nat) AV.junk)) then vev9_0 t8 (intOf ((t18.getD t21.toNat []).getD (0 : Nat) AV.junk)) else vev9_0 t8 (intOf ((t18.getD t20.toNat []).getD (0 : Nat) AV.junk))) then true else bif decide ((0 : Int) ≤ t21) && decide (t21 < (↑t18.length : Int)) then decide ((0 : Int) ≤ t20) && decide (t20 < (↑t18.length : Int)) else false else false else false then bif decide ((0 : Int) ≤ t20) && decide (t20 < (↑t18.length : Int)) then bif decide ((0 : Int) ≤ t21) && decide (t21 < (↑t18.length : Int)) then bif decide (IntKind.i64.wrap (intOf ((t18.getD t20.toNat []).getD ((0 : Nat) + (1 : Nat)) AV.junk) - intOf ((t18.getD t21.toNat []).getD ((0 : Nat) + (1 : Nat)) AV.junk)) > if if true = true then vev9_0 t8 (intOf ((t18.getD t20.toNat []).getD (0 : Nat) AV.junk)) < vev9_0 t8 (intOf ((t18.getD t21.toNat []).getD (0 : Nat) AV.junk)) else vev9_0 t8 (intOf ((t18.getD t21.toNat []).getD (0 : Nat) AV.junk)) < vev9_0 t8 (intOf ((t18.getD t20.toNat []).getD (0 : Nat) AV.junk)) then vev9_0 t8 (intOf ((t18.getD t21.toNat []).getD (0 : Nat) AV.junk)) else vev9_0 t8 (intOf ((t18.getD t20.toNat []).getD (0 : Nat) AV.junk))) then true else bif decide ((0 : Int) ≤ t21) && decide (t21 < (↑t18.length : Int)) then bif decide ((0 : Int) ≤ t20) && decide (t20 < (↑t18.length : Int)) then decide (IntKind.i64.wrap (intOf ((t18.getD t21.toNat []).getD ((0 : Nat) + (1 : Nat)) AV.junk) - intOf ((t18.getD t20.toNat []).getD ((0 : Nat) + (1 : Nat)) AV.junk)) > if if true = true then vev9_0 t8 (intOf ((t18.getD t20.toNat []).getD (0 : Nat) AV.junk)) < vev9_0 t8 (intOf ((t18.getD t21.toNat []).getD (0 : Nat) AV.junk)) else vev9_0 t8 (intOf ((t18.getD t21.toNat []).getD (0 : Nat) AV.junk)) < vev9_0 t8 (intOf ((t18.getD t20.toNat []).getD (0 : Nat) AV.junk)) then vev9_0 t8 (intOf ((t18.getD t21.toNat []).getD (0 : Nat) AV.junk)) else vev9_0 t8 (intOf ((t18.getD t20.toNat []).getD (0 : Nat) AV.junk))) else false else false else false else false else false else false else false else false else false else false else false
noncomputable def xc5_29_1 (t8 : Int) (t16 : List (List AV)) (t18 : List (List AV)) (t20 : Int) (t21 : Int) (b4 : List (List AV)) : Bool := bif decide (t21 < t20) then false else true
theorem rd5_29 (rest : Lsp) (t8 : Int) (t16 : List (List AV)) (t18 : List (List AV)) (t20 : Int) (t21 : Int) (b4 : List (List AV)) : roundV (cfg Try.prog tab 100000 (gk k18t 30) (selL 6 ls5_6 (selL 14 ls5_14 rest)) 5 0 Try.f5.ntmps) (loopAt Try.f5 29) [7, 8, 16, 18, 20, 21] [0, 1, 2, 4] [6, 7, 8, 16, 18, 20] [0, 1, 2, 4, 5, 6] [AV.rf (nat_lit 4) [Kd.int IntKind.i64, Kd.int IntKind.i64, Kd.int IntKind.i64, Kd.int IntKind.i64], AV.int IntKind.i64 t8, AV.sl Tk.imm [Kd.int IntKind.i64, Kd.int IntKind.i64, Kd.int IntKind.i64, Kd.int IntKind.i64] t16, AV.sl Tk.imm [Kd.int IntKind.i64, Kd.int IntKind.i64, Kd.int IntKind.i64, Kd.int IntKind.i64] t18, AV.int IntKind.i64 t20, AV.int IntKind.i64 t21] [Blk.dead, Blk.dead, Blk.dead, Blk.row [Kd.int IntKind.i64, Kd.int IntKind.i64, Kd.int IntKind.i64, Kd.int IntKind.i64] b4] = bif go5_29 t8 t16 t18 t20 t21 b4 then some (Ex.norm, [AV.rf (nat_lit 4) [Kd.int IntKind.i64, Kd.int IntKind.i64, Kd.int IntKind.i64, Kd.int IntKind.i64], AV.int IntKind.i64 t8, AV.sl Tk.imm [Kd.int IntKind.i64, Kd.int IntKind.i64, Kd.int IntKind.i64, Kd.int IntKind.i64] t16, AV.sl Tk.imm [Kd.int IntKind.i64, Kd.int IntKind.i64, Kd.int IntKind.i64, Kd.int IntKind.i64] t18, AV.int IntKind.i64 t20, AV.int IntKind.i64 (nx5_29_4 t8 t16 t18 t20 t21 b4)], [Blk.dead, Blk.dead, Blk.dead, Blk.row [Kd.int IntKind.i64, Kd.int IntKind.i64, Kd.int IntKind.i64, Kd.int IntKind.i64] b4]) else bif xc5_29_0 t8 t16 t18 t20 t21 b4 then some (Ex.ret, [AV.bool false, AV.rf (nat_lit 4) [Kd.int IntKind.i64, Kd.int IntKind.i64, Kd.int IntKind.i64, Kd.int IntKind.i64], AV.int IntKind.i64 t8, AV.sl Tk.imm [Kd.int IntKind.i64, Kd.int IntKind.i64, Kd.int IntKind.i64, Kd.int IntKind.i64] t16, AV.sl Tk.imm [Kd.int IntKind.i64, Kd.int IntKind.i64, Kd.int IntKind.i64, Kd.int IntKind.i64] t18, AV.int IntKind.i64 t20], [Blk.dead, Blk.dead, Blk.dead, Blk.row [Kd.int IntKind.i64, Kd.int IntKind.i64, Kd.int IntKind.i64, Kd.int IntKind.i64] b4, Blk.dead, Blk.dead]) else bif xc5_29_1 t8 t16 t18 t20 t21 b4 then some (Ex.exit (nat_lit 6), [AV.junk, AV.rf (nat_lit 4) [Kd.int IntKind.i64, Kd.int IntKind.i64, Kd.int IntKind.i64, Kd.int IntKind.i64], AV.int IntKind.i64 t8, AV.sl Tk.imm [Kd.int IntKind.i64, Kd.int IntKind.i64, Kd.int IntKind.i64, Kd.int IntKind.i64] t16, AV.sl Tk.imm [Kd.int IntKind.i64, Kd.int IntKind.i64, Kd.int IntKind.i64, Kd.int IntKind.i64] t18, AV.int IntKind.i64 t20], [Blk.dead, Blk.dead, Blk.dead, Blk.row [Kd.int IntKind.i64, Kd.int IntKind.i64, Kd.int IntKind.i64, Kd.int IntKind.i64] b4, Blk.dead, Blk.dead]) else none := by
  have h : roundV (cfg Try.prog tab 100000 (gk k18t 30) (selL 6 ls5_6 (selL 14 ls5_14 rest)) 5 0 Try.f5.ntmps) (loopAt Try.f5 29) [7, 8, 16, 18, 20, 21] [0, 1, 2, 4] [6, 7, 8, 16, 18, 20] [0, 1, 2, 4, 5, 6] [AV.rf (nat_lit 4) [Kd.int IntKind.i64, Kd.int IntKind.i64, Kd.int IntKind.i64, Kd.int IntKind.i64], AV.int IntKind.i64 t8, AV.sl Tk.imm [Kd.int IntKind.i64, Kd.int IntKind.i64, Kd.int IntKind.i64, Kd.int IntKind.i64] t16, AV.sl Tk.imm [Kd.int IntKind.i64, Kd.int IntKind.i64, Kd.int IntKind.i64, Kd.int IntKind.i64] t18, AV.int IntKind.i64 t20, AV.int IntKind.i64 t21] [Blk.dead, Blk.dead, Blk.dead, Blk.row [Kd.int IntKind.i64, Kd.int IntKind.i64, Kd.int IntKind.i64, Kd.int IntKind.i64] b4] = bif decide (t21 < t20) then bif decide ((0 : Int) ≤ t20) && decide (t20 < (↑t18.length : Int)) then bif vev9_2 t8 (intOf ((t18.getD t20.toNat []).getD (0 : Nat) AV.junk)) then bif decide ((0 : Int) ≤ t21) && decide (t21 < (↑t18.length : Int)) then bif vev9_2 t8 (intOf ((t18.getD t21.toNat []).getD (0 : Nat) AV.junk)) then bif bif vev9_1 t8 (intOf ((t18.getD t20.toNat []).getD (0 : Nat) AV.junk)) != (0 : Int) then true else bif bif false then true else vev9_1 t8 (intOf ((t18.getD t21.toNat []).getD (0 : Nat) AV.junk)) != (0 : Int) then true else bif decide ((0 : Int) ≤ t20) && decide (t20 < (↑t18.length : Int)) then bif decide ((0 : Int) ≤ t21) && decide (t21 < (↑t18.length : Int)) then bif decide ((0 : Int) ≤ t20) && decide (t20 < (↑t16.length : Int)) then bif decide ((0 : Int) ≤ t21) && decide (t21 < (↑t16.length : Int)) then true else false else false else false else false then bif bif vev9_1 t8 (intOf ((t18.getD t20.toNat []).getD (0 : Nat) AV.junk)) != (0 : Int) then true else bif bif false then true else vev9_1 t8 (intOf ((t18.getD t21.toNat []).getD (0 : Nat) AV.junk)) != (0 : Int) then true else bif decide ((0 : Int) ≤ t20) && decide (t20 < (↑t18.length : Int)) then bif decide ((0 : Int) ≤ t21) && decide (t21 < (↑t18.length : Int)) then bif decide ((0 : Int) ≤ t20) && decide (t20 < (↑t16.length : Int)) then bif decide ((0 : Int) ≤ t21) && decide (t21 < (↑t16.length : Int)) then bif false then true else !vev26_0 (intOf ((t18.getD t20.toNat []).getD (0 : Nat) AV.junk)) (intOf ((t18.getD t20.toNat []).getD ((0 : Nat) + (1 : Nat)) AV.junk)) (intOf ((t18.getD t20.toNat []).getD ((0 : Nat) + (1 : Nat) + (1 : Nat)) AV.junk)) (intOf ((t18.getD t20.toNat []).getD ((0 : Nat) + (1 : Nat) + (1 : Nat) + (1 : Nat)) AV.junk)) (intOf ((t18.getD t21.toNat []).getD (0 : Nat) AV.junk)) (intOf ((t18.getD t21.toNat []).getD ((0 : Nat) + (1 : Nat)) AV.junk)) (intOf ((t18.getD t21.toNat []).getD ((0 : Nat) + (1 : Nat) + (1 : Nat)) AV.junk)) (intOf ((t18.getD t21.toNat []).getD ((0 : Nat) + (1 : Nat) + (1 : Nat) + (1 : Nat)) AV.junk)) (intOf ((t16.getD t20.toNat []).getD ((0 : Nat) + (1 : Nat) + (1 : Nat) + (1 : Nat)) AV.junk)) (intOf ((t16.getD t21.toNat []).getD ((0 : Nat) + (1 : Nat) + (1 : Nat) + (1 : Nat)) AV.junk)) t8 else false else false else false else false then some (Ex.ret, [AV.bool false, AV.rf (nat_lit 4) [Kd.int IntKind.i64, Kd.int IntKind.i64, Kd.int IntKind.i64, Kd.int IntKind.i64], AV.int IntKind.i64 t8, AV.sl Tk.imm [Kd.int IntKind.i64, Kd.int IntKind.i64, Kd.int IntKind.i64, Kd.int IntKind.i64] t16, AV.sl Tk.imm [Kd.int IntKind.i64, Kd.int IntKind.i64, Kd.int IntKind.i64, Kd.int IntKind.i64] t18, AV.int IntKind.i64 t20], [Blk.dead, Blk.dead, Blk.dead, Blk.row [Kd.int IntKind.i64, Kd.int IntKind.i64, Kd.int IntKind.i64, Kd.int IntKind.i64] b4, Blk.dead, Blk.dead]) else bif bif decide ((0 : Int) ≤ t20) && decide (t20 < (↑t18.length : Int)) then bif decide ((0 : Int) ≤ t21) && decide (t21 < (↑t18.length : Int)) then bif decide (IntKind.i64.wrap (intOf ((t18.getD t20.toNat []).getD ((0 : Nat) + (1 : Nat)) AV.junk) - intOf ((t18.getD t21.toNat []).getD ((0 : Nat) + (1 : Nat)) AV.junk)) > if if true = true then vev9_0 t8 (intOf ((t18.getD t20.toNat []).getD (0 : Nat) AV.junk)) < vev9_0 t8 (intOf ((t18.getD t21.toNat []).getD (0 : Nat) AV.junk)) else vev9_0 t8 (intOf ((t18.getD t21.toNat []).getD (0 : Nat) AV.junk)) < vev9_0 t8 (intOf ((t18.getD t20.toNat []).getD (0 : Nat) AV.junk)) then vev9_0 t8 (intOf ((t18.getD t21.toNat []).getD (0 : Nat) AV.junk)) else vev9_0 t8 (intOf ((t18.getD t20.toNat []).getD (0 : Nat) AV.junk))) then true else bif decide ((0 : Int) ≤ t21) && decide (t21 < (↑t18.length : Int)) then bif decide ((0 : Int) ≤ t20) && decide (t20 < (↑t18.length : Int)) then true else false else false else false else false then bif bif decide ((0 : Int) ≤ t20) && decide (t20 < (↑t18.length : Int)) then bif decide ((0 : Int) ≤ t21) && decide (t21 < (↑t18.length : Int)) then bif decide (IntKind.i64.wrap (intOf ((t18.getD t20.toNat []).getD ((0 : Nat) + (1 : Nat)) AV.junk) - intOf ((t18.getD t21.toNat []).getD ((0 : Nat) + (1 : Nat)) AV.junk)) > if if true = true then vev9_0 t8 (intOf ((t18.getD t20.toNat []).getD (0 : Nat) AV.junk)) < vev9_0 t8 (intOf ((t18.getD t21.toNat []).getD (0 : Nat) AV.junk)) else vev9_0 t8 (intOf ((t18.getD t21.toNat []).getD (0 : Nat) AV.junk)) < vev9_0 t8 (intOf ((t18.getD t20.toNat []).getD (0 : Nat) AV.junk)) then vev9_0 t8 (intOf ((t18.getD t21.toNat []).getD (0 : Nat) AV.junk)) else vev9_0 t8 (intOf ((t18.getD t20.toNat []).getD (0 : Nat) AV.junk))) then true else bif decide ((0 : Int) ≤ t21) && decide (t21 < (↑t18.length : Int)) then bif decide ((0 : Int) ≤ t20) && decide (t20 < (↑t18.length : Int)) then bif false then true else decide (IntKind.i64.wrap (intOf ((t18.getD t21.toNat []).getD ((0 : Nat) + (1 : Nat)) AV.junk) - intOf ((t18.getD t20.toNat []).getD ((0 : Nat) + (1 : Nat)) AV.junk)) > if if true = true then vev9_0 t8 (intOf ((t18.getD t20.toNat []).getD (0 : Nat) AV.junk)) < vev9_0 t8 (intOf ((t18.getD t21.toNat []).getD (0 : Nat) AV.junk)) else vev9_0 t8 (intOf ((t18.getD t21.toNat []).getD (0 : Nat) AV.junk)) < vev9_0 t8 (intOf ((t18.getD t20.toNat []).getD (0 : Nat) AV.junk)) then vev9_0 t8 (intOf ((t18.getD t21.toNat []).getD (0 : Nat) AV.junk)) else vev9_0 t8 (intOf ((t18.getD t20.toNat []).getD (0 : Nat) AV.junk))) else false else false else false else false then some (Ex.ret, [AV.bool false, AV.rf (nat_lit 4) [Kd.int IntKind.i64, Kd.int IntKind.i64, Kd.int IntKind.i64, Kd.int IntKind.i64], AV.int IntKind.i64 t8, AV.sl Tk.imm [Kd.int IntKind.i64, Kd.int IntKind.i64, Kd.int IntKind.i64, Kd.int IntKind.i64] t16, AV.sl Tk.imm [Kd.int IntKind.i64, Kd.int IntKind.i64, Kd.int IntKind.i64, Kd.int IntKind.i64] t18, AV.int IntKind.i64 t20], [Blk.dead, Blk.dead, Blk.dead, Blk.row [Kd.int IntKind.i64, Kd.int IntKind.i64, Kd.int IntKind.i64, Kd.int IntKind.i64] b4, Blk.dead, Blk.dead]) else some (Ex.norm, [AV.rf (nat_lit 4) [Kd.int IntKind.i64, Kd.int IntKind.i64, Kd.int IntKind.i64, Kd.int IntKind.i64], AV.int IntKind.i64 t8, AV.sl Tk.imm [Kd.int IntKind.i64, Kd.int IntKind.i64, Kd.int IntKind.i64, Kd.int IntKind.i64] t16, AV.sl Tk.imm [Kd.int IntKind.i64, Kd.int IntKind.i64, Kd.int IntKind.i64, Kd.int IntKind.i64] t18, AV.int IntKind.i64 t20, AV.int IntKind.i64 (IntKind.i64.wrap (t21 + (1 : Int)))], [Blk.dead, Blk.dead, Blk.dead, Blk.row [Kd.int IntKind.i64, Kd.int IntKind.i64, Kd.int IntKind.i64, Kd.int IntKind.i64] b4]) else none else none else none else none else none else none else some (Ex.exit (nat_lit 6), [AV.junk, AV.rf (nat_lit 4) [Kd.int IntKind.i64, Kd.int IntKind.i64, Kd.int IntKind.i64, Kd.int IntKind.i64], AV.int IntKind.i64 t8, AV.sl Tk.imm [Kd.int IntKind.i64, Kd.int IntKind.i64, Kd.int IntKind.i64, Kd.int IntKind.i64] t16, AV.sl Tk.imm [Kd.int IntKind.i64, Kd.int IntKind.i64, Kd.int IntKind.i64, Kd.int IntKind.i64] t18, AV.int IntKind.i64 t20], [Blk.dead, Blk.dead, Blk.dead, Blk.row [Kd.int IntKind.i64, Kd.int IntKind.i64, Kd.int IntKind.i64, Kd.int IntKind.i64] b4, Blk.dead, Blk.dead]) := by kernel_rfl
  rw [h]
  clear h
  unfold go5_29 nx5_29_4 xc5_29_0 xc5_29_1
  generalize (decide (IntKind.i64.wrap (intOf ((t18.getD t20.toNat []).getD ((0 : Nat) + (1 : Nat)) AV.junk) - intOf ((t18.getD t21.toNat []).getD ((0 : Nat) + (1 : Nat)) AV.junk)) > if if true = true then vev9_0 t8 (intOf ((t18.getD t20.toNat []).getD (0 : Nat) AV.junk)) < vev9_0 t8 (intOf ((t18.getD t21.toNat []).getD (0 : Nat) AV.junk)) else vev9_0 t8 (intOf ((t18.getD t21.toNat []).getD (0 : Nat) AV.junk)) < vev9_0 t8 (intOf ((t18.getD t20.toNat []).getD (0 : Nat) AV.junk)) then vev9_0 t8 (intOf ((t18.getD t21.toNat []).getD (0 : Nat) AV.junk)) else vev9_0 t8 (intOf ((t18.getD t20.toNat []).getD (0 : Nat) AV.junk)))) = c0
  generalize (decide (IntKind.i64.wrap (intOf ((t18.getD t21.toNat []).getD ((0 : Nat) + (1 : Nat)) AV.junk) - intOf ((t18.getD t20.toNat []).getD ((0 : Nat) + (1 : Nat)) AV.junk)) > if if true = true then vev9_0 t8 (intOf ((t18.getD t20.toNat []).getD (0 : Nat) AV.junk)) < vev9_0 t8 (intOf ((t18.getD t21.toNat []).getD (0 : Nat) AV.junk)) else vev9_0 t8 (intOf ((t18.getD t21.toNat []).getD (0 : Nat) AV.junk)) < vev9_0 t8 (intOf ((t18.getD t20.toNat []).getD (0 : Nat) AV.junk)) then vev9_0 t8 (intOf ((t18.getD t21.toNat []).getD (0 : Nat) AV.junk)) else vev9_0 t8 (intOf ((t18.getD t20.toNat []).getD (0 : Nat) AV.junk)))) = c1
  generalize (!vev26_0 (intOf ((t18.getD t20.toNat []).getD (0 : Nat) AV.junk)) (intOf ((t18.getD t20.toNat []).getD ((0 : Nat) + (1 : Nat)) AV.junk)) (intOf ((t18.getD t20.toNat []).getD ((0 : Nat) + (1 : Nat) + (1 : Nat)) AV.junk)) (intOf ((t18.getD t20.toNat []).getD ((0 : Nat) + (1 : Nat) + (1 : Nat) + (1 : Nat)) AV.junk)) (intOf ((t18.getD t21.toNat []).getD (0 : Nat) AV.junk)) (intOf ((t18.getD t21.toNat []).getD ((0 : Nat) + (1 : Nat)) AV.junk)) (intOf ((t18.getD t21.toNat []).getD ((0 : Nat) + (1 : Nat) + (1 : Nat)) AV.junk)) (intOf ((t18.getD t21.toNat []).getD ((0 : Nat) + (1 : Nat) + (1 : Nat) + (1 : Nat)) AV.junk)) (intOf ((t16.getD t20.toNat []).getD ((0 : Nat) + (1 : Nat) + (1 : Nat) + (1 : Nat)) AV.junk)) (intOf ((t16.getD t21.toNat []).getD ((0 : Nat) + (1 : Nat) + (1 : Nat) + (1 : Nat)) AV.junk)) t8) = c2
  generalize (decide ((0 : Int) ≤ t20) && decide (t20 < (↑t16.length : Int))) = c3
  generalize (decide ((0 : Int) ≤ t20) && decide (t20 < (↑t18.length : Int))) = c4
  generalize (decide ((0 : Int) ≤ t21) && decide (t21 < (↑t16.length : Int))) = c5
  generalize (decide ((0 : Int) ≤ t21) && decide (t21 < (↑t18.length : Int))) = c6
  generalize (vev9_1 t8 (intOf ((t18.getD t20.toNat []).getD (0 : Nat) AV.junk)) != (0 : Int)) = c7
  generalize (vev9_1 t8 (intOf ((t18.getD t21.toNat []).getD (0 : Nat) AV.junk)) != (0 : Int)) = c8
  generalize (vev9_2 t8 (intOf ((t18.getD t20.toNat []).getD (0 : Nat) AV.junk))) = c9
  generalize (vev9_2 t8 (intOf ((t18.getD t21.toNat []).getD (0 : Nat) AV.junk))) = c10
  generalize (decide (t21 < t20)) = c11
  cases c11
  · skip
    rfl
  · skip
    cases c4
    · skip
      rfl
    · skip
      cases c9
      · skip
        rfl
      · skip
        cases c6
        · skip
          rfl
        · skip
          cases c10
          · skip
            rfl
          · skip
            cases c7
            · skip
              cases c8
              · skip
                cases c3
                · skip
                  rfl
                · skip
                  cases c5
                  · skip
                    rfl
                  · skip
                    cases c2
                    · skip
                      cases c0
                      · skip
                        cases c1
                        · skip
                          rfl
                        · skip
                          rfl
                      · skip
                        rfl
                    · skip
                      rfl
              · skip
                rfl
            · skip
              rfl
abbrev pl5_29 : Type := Int × (List (List AV)) × (List (List AV)) × Int × (List (List AV))
abbrev sl5_29 : Type := Int
noncomputable def vt5_29 (a : pl5_29 × sl5_29) : List AV := [AV.rf (nat_lit 4) [Kd.int IntKind.i64, Kd.int IntKind.i64, Kd.int IntKind.i64, Kd.int IntKind.i64], AV.int IntKind.i64 a.1.1, AV.sl Tk.imm [Kd.int IntKind.i64, Kd.int IntKind.i64, Kd.int IntKind.i64, Kd.int IntKind.i64] a.1.2.1, AV.sl Tk.imm [Kd.int IntKind.i64, Kd.int IntKind.i64, Kd.int IntKind.i64, Kd.int IntKind.i64] a.1.2.2.1, AV.int IntKind.i64 a.1.2.2.2.1, AV.int IntKind.i64 a.2]
noncomputable def vc5_29 (a : pl5_29 × sl5_29) : List Blk := [Blk.dead, Blk.dead, Blk.dead, Blk.row [Kd.int IntKind.i64, Kd.int IntKind.i64, Kd.int IntKind.i64, Kd.int IntKind.i64] a.1.2.2.2.2]
noncomputable def de5_29 (vt : List AV) (vc : List Blk) : Option (pl5_29 × sl5_29) :=
  match vt with
  | [qa0, qa1, qa2, qa3, qa4, qa5] => (match vc with
  | [qb0, qb1, qb2, qb3] => (match qa0 with
  | AV.rf (4) [Kd.int IntKind.i64, Kd.int IntKind.i64, Kd.int IntKind.i64, Kd.int IntKind.i64] => (match qa1 with
  | AV.int IntKind.i64 t8 => (match qa2 with
  | AV.sl Tk.imm [Kd.int IntKind.i64, Kd.int IntKind.i64, Kd.int IntKind.i64, Kd.int IntKind.i64] t16 => (match qa3 with
  | AV.sl Tk.imm [Kd.int IntKind.i64, Kd.int IntKind.i64, Kd.int IntKind.i64, Kd.int IntKind.i64] t18 => (match qa4 with
  | AV.int IntKind.i64 t20 => (match qa5 with
  | AV.int IntKind.i64 t21 => (match qb0 with
  | Blk.dead => (match qb1 with
  | Blk.dead => (match qb2 with
  | Blk.dead => (match qb3 with
  | Blk.row [Kd.int IntKind.i64, Kd.int IntKind.i64, Kd.int IntKind.i64, Kd.int IntKind.i64] b4 => (some ((t8, t16, t18, t20, b4), t21))
  | _ => none)
  | _ => none)
  | _ => none)
  | _ => none)
  | _ => none)
  | _ => none)
  | _ => none)
  | _ => none)
  | _ => none)
  | _ => none)
  | _ => none)
  | _ => none
theorem de5_29_ok (vt : List AV) (vc : List Blk) (a : pl5_29 × sl5_29) (h : de5_29 vt vc = some a) : vt = vt5_29 a ∧ vc = vc5_29 a := by
  unfold de5_29 at h
  split at h
  rotate_left
  · cases h
  split at h
  rotate_left
  · cases h
  split at h
  rotate_left
  · cases h
  split at h
  rotate_left
  · cases h
  split at h
  rotate_left
  · cases h
  split at h
  rotate_left
  · cases h
  split at h
  rotate_left
  · cases h
  split at h
  rotate_left
  · cases h
  split at h
  rotate_left
  · cases h
  split at h
  rotate_left
  · cases h
  split at h
  rotate_left
  · cases h
  split at h
  rotate_left
  · cases h
  injection h with h
  subst h
  exact ⟨rfl, rfl⟩
noncomputable def g5_29 (p : pl5_29) (s : sl5_29) : Bool := go5_29 p.1 p.2.1 p.2.2.1 p.2.2.2.1 s p.2.2.2.2
noncomputable def n5_29 (p : pl5_29) (s : sl5_29) : sl5_29 := nx5_29_4 p.1 p.2.1 p.2.2.1 p.2.2.2.1 s p.2.2.2.2
noncomputable def y5_29 (p : pl5_29) (s : sl5_29) : List (Bool × Out) := [(xc5_29_0 p.1 p.2.1 p.2.2.1 p.2.2.2.1 s p.2.2.2.2, (Ex.ret, [AV.bool false, AV.rf (nat_lit 4) [Kd.int IntKind.i64, Kd.int IntKind.i64, Kd.int IntKind.i64, Kd.int IntKind.i64], AV.int IntKind.i64 p.1, AV.sl Tk.imm [Kd.int IntKind.i64, Kd.int IntKind.i64, Kd.int IntKind.i64, Kd.int IntKind.i64] p.2.1, AV.sl Tk.imm [Kd.int IntKind.i64, Kd.int IntKind.i64, Kd.int IntKind.i64, Kd.int IntKind.i64] p.2.2.1, AV.int IntKind.i64 p.2.2.2.1], [Blk.dead, Blk.dead, Blk.dead, Blk.row [Kd.int IntKind.i64, Kd.int IntKind.i64, Kd.int IntKind.i64, Kd.int IntKind.i64] p.2.2.2.2, Blk.dead, Blk.dead]))]
noncomputable def z5_29 (p : pl5_29) (s : sl5_29) : Bool := xc5_29_1 p.1 p.2.1 p.2.2.1 p.2.2.2.1 s p.2.2.2.2
noncomputable def d5_29 (p : pl5_29) (s : sl5_29) : Out := (Ex.exit (nat_lit 6), [AV.junk, AV.rf (nat_lit 4) [Kd.int IntKind.i64, Kd.int IntKind.i64, Kd.int IntKind.i64, Kd.int IntKind.i64], AV.int IntKind.i64 p.1, AV.sl Tk.imm [Kd.int IntKind.i64, Kd.int IntKind.i64, Kd.int IntKind.i64, Kd.int IntKind.i64] p.2.1, AV.sl Tk.imm [Kd.int IntKind.i64, Kd.int IntKind.i64, Kd.int IntKind.i64, Kd.int IntKind.i64] p.2.2.1, AV.int IntKind.i64 p.2.2.2.1], [Blk.dead, Blk.dead, Blk.dead, Blk.row [Kd.int IntKind.i64, Kd.int IntKind.i64, Kd.int IntKind.i64, Kd.int IntKind.i64] p.2.2.2.2, Blk.dead, Blk.dead])
noncomputable def ls5_29 : St → Option (Bool × List (Bool × Ex × St) × Ex × St) := lspOf [7, 8, 16, 18, 20, 21] [0, 1, 2, 4] [6, 7, 8, 16, 18, 20] [0, 1, 2, 4, 5, 6] Try.f5.ntmps (0 + tab.nid 5) de5_29 (spI g5_29 n5_29 y5_29 z5_29 d5_29)
theorem lo5_29 (rest : Lsp) : LoopOK1 (cfg Try.prog tab 100000 (gk k18t 30) (selL 6 ls5_6 (selL 14 ls5_14 (selL 29 ls5_29 rest))) 5 0 Try.f5.ntmps) (loopAt Try.f5 29) := LoopOK1.iter (i := 29) (by kernel_rfl) [7, 8, 16, 18, 20, 21] [0, 1, 2, 4] [6, 7, 8, 16, 18, 20] [0, 1, 2, 4, 5, 6] vt5_29 vc5_29 de5_29 g5_29 n5_29 y5_29 z5_29 d5_29 (fun _ => rfl) de5_29_ok (fun p s => rd5_29 (selL 29 ls5_29 rest) (p.1) (p.2.1) (p.2.2.1) (p.2.2.2.1) s (p.2.2.2.2)) (fun _ _ => rfl)
noncomputable def go5_26 (t8 : Int) (t16 : List (List AV)) (t18 : List (List AV)) (t20 : Int) (b4 : List (List AV)) : Bool := bif decide (t20 < (↑b4.length : Int)) then bif (spI g5_29 n5_29 y5_29 z5_29 d5_29 ((t8, t16, t18, t20, b4), (0 : Int))).fst then bif xc5_29_0 t8 t16 t18 t20 (finL (g5_29 (t8, t16, t18, t20, b4)) (n5_29 (t8, t16, t18, t20, b4)) (0 : Int)) b4 then false else true else false else false
noncomputable def nx5_26_3 (t8 : Int) (t16 : List (List AV)) (t18 : List (List AV)) (t20 : Int) (b4 : List (List AV)) : Int := IntKind.i64.wrap (t20 + (1 : Int))
noncomputable def xc5_26_0 (t8 : Int) (t16 : List (List AV)) (t18 : List (List AV)) (t20 : Int) (b4 : List (List AV)) : Bool := bif decide (t20 < (↑b4.length : Int)) then bif (spI g5_29 n5_29 y5_29 z5_29 d5_29 ((t8, t16, t18, t20, b4), (0 : Int))).fst then xc5_29_0 t8 t16 t18 t20 (finL (g5_29 (t8, t16, t18, t20, b4)) (n5_29 (t8, t16, t18, t20, b4)) (0 : Int)) b4 else false else false
noncomputable def xc5_26_1 (t8 : Int) (t16 : List (List AV)) (t18 : List (List AV)) (t20 : Int) (b4 : List (List AV)) : Bool := bif decide (t20 < (↑b4.length : Int)) then false else true
theorem rd5_26 (rest : Lsp) (t8 : Int) (t16 : List (List AV)) (t18 : List (List AV)) (t20 : Int) (b4 : List (List AV)) : roundV (cfg Try.prog tab 100000 (gk k18t 30) (selL 6 ls5_6 (selL 14 ls5_14 (selL 29 ls5_29 rest))) 5 0 Try.f5.ntmps) (loopAt Try.f5 26) [7, 8, 16, 18, 20] [0, 1, 2, 4] [6] [] [AV.rf (nat_lit 4) [Kd.int IntKind.i64, Kd.int IntKind.i64, Kd.int IntKind.i64, Kd.int IntKind.i64], AV.int IntKind.i64 t8, AV.sl Tk.imm [Kd.int IntKind.i64, Kd.int IntKind.i64, Kd.int IntKind.i64, Kd.int IntKind.i64] t16, AV.sl Tk.imm [Kd.int IntKind.i64, Kd.int IntKind.i64, Kd.int IntKind.i64, Kd.int IntKind.i64] t18, AV.int IntKind.i64 t20] [Blk.dead, Blk.dead, Blk.dead, Blk.row [Kd.int IntKind.i64, Kd.int IntKind.i64, Kd.int IntKind.i64, Kd.int IntKind.i64] b4] = bif go5_26 t8 t16 t18 t20 b4 then some (Ex.norm, [AV.rf (nat_lit 4) [Kd.int IntKind.i64, Kd.int IntKind.i64, Kd.int IntKind.i64, Kd.int IntKind.i64], AV.int IntKind.i64 t8, AV.sl Tk.imm [Kd.int IntKind.i64, Kd.int IntKind.i64, Kd.int IntKind.i64, Kd.int IntKind.i64] t16, AV.sl Tk.imm [Kd.int IntKind.i64, Kd.int IntKind.i64, Kd.int IntKind.i64, Kd.int IntKind.i64] t18, AV.int IntKind.i64 (nx5_26_3 t8 t16 t18 t20 b4)], [Blk.dead, Blk.dead, Blk.dead, Blk.row [Kd.int IntKind.i64, Kd.int IntKind.i64, Kd.int IntKind.i64, Kd.int IntKind.i64] b4]) else bif xc5_26_0 t8 t16 t18 t20 b4 then some (Ex.ret, [AV.bool false], []) else bif xc5_26_1 t8 t16 t18 t20 b4 then some (Ex.exit (nat_lit 4), [AV.junk], []) else none := by
  have h : roundV (cfg Try.prog tab 100000 (gk k18t 30) (selL 6 ls5_6 (selL 14 ls5_14 (selL 29 ls5_29 rest))) 5 0 Try.f5.ntmps) (loopAt Try.f5 26) [7, 8, 16, 18, 20] [0, 1, 2, 4] [6] [] [AV.rf (nat_lit 4) [Kd.int IntKind.i64, Kd.int IntKind.i64, Kd.int IntKind.i64, Kd.int IntKind.i64], AV.int IntKind.i64 t8, AV.sl Tk.imm [Kd.int IntKind.i64, Kd.int IntKind.i64, Kd.int IntKind.i64, Kd.int IntKind.i64] t16, AV.sl Tk.imm [Kd.int IntKind.i64, Kd.int IntKind.i64, Kd.int IntKind.i64, Kd.int IntKind.i64] t18, AV.int IntKind.i64 t20] [Blk.dead, Blk.dead, Blk.dead, Blk.row [Kd.int IntKind.i64, Kd.int IntKind.i64, Kd.int IntKind.i64, Kd.int IntKind.i64] b4] = bif decide (t20 < (↑b4.length : Int)) then bif (spI g5_29 n5_29 y5_29 z5_29 d5_29 ((t8, t16, t18, t20, b4), (0 : Int))).fst then bif xc5_29_0 t8 t16 t18 t20 (finL (g5_29 (t8, t16, t18, t20, b4)) (n5_29 (t8, t16, t18, t20, b4)) (0 : Int)) b4 then some (Ex.ret, [AV.bool false], []) else some (Ex.norm, [AV.rf (nat_lit 4) [Kd.int IntKind.i64, Kd.int IntKind.i64, Kd.int IntKind.i64, Kd.int IntKind.i64], AV.int IntKind.i64 t8, AV.sl Tk.imm [Kd.int IntKind.i64, Kd.int IntKind.i64, Kd.int IntKind.i64, Kd.int IntKind.i64] t16, AV.sl Tk.imm [Kd.int IntKind.i64, Kd.int IntKind.i64, Kd.int IntKind.i64, Kd.int IntKind.i64] t18, AV.int IntKind.i64 (IntKind.i64.wrap (t20 + (1 : Int)))], [Blk.dead, Blk.dead, Blk.dead, Blk.row [Kd.int IntKind.i64, Kd.int IntKind.i64, Kd.int IntKind.i64, Kd.int IntKind.i64] b4]) else none else some (Ex.exit (nat_lit 4), [AV.junk], []) := by kernel_rfl
  rw [h]
  clear h
  unfold go5_26 nx5_26_3 xc5_26_0 xc5_26_1
  generalize (xc5_29_0 t8 t16 t18 t20 (finL (g5_29 (t8, t16, t18, t20, b4)) (n5_29 (t8, t16, t18, t20, b4)) (0 : Int)) b4) = c0
  generalize ((spI g5_29 n5_29 y5_29 z5_29 d5_29 ((t8, t16, t18, t20, b4), (0 : Int))).fst) = c1
  generalize (decide (t20 < (↑b4.length : Int))) = c2
  cases c2
  · skip
    rfl
  · skip
    cases c1
    · skip
      rfl
    · skip
      cases c0
      · skip
        rfl
      · skip
        rfl
abbrev pl5_26 : Type := Int × (List (List AV)) × (List (List AV)) × (List (List AV))
abbrev sl5_26 : Type := Int
noncomputable def vt5_26 (a : pl5_26 × sl5_26) : List AV := [AV.rf (nat_lit 4) [Kd.int IntKind.i64, Kd.int IntKind.i64, Kd.int IntKind.i64, Kd.int IntKind.i64], AV.int IntKind.i64 a.1.1, AV.sl Tk.imm [Kd.int IntKind.i64, Kd.int IntKind.i64, Kd.int IntKind.i64, Kd.int IntKind.i64] a.1.2.1, AV.sl Tk.imm [Kd.int IntKind.i64, Kd.int IntKind.i64, Kd.int IntKind.i64, Kd.int IntKind.i64] a.1.2.2.1, AV.int IntKind.i64 a.2]
noncomputable def vc5_26 (a : pl5_26 × sl5_26) : List Blk := [Blk.dead, Blk.dead, Blk.dead, Blk.row [Kd.int IntKind.i64, Kd.int IntKind.i64, Kd.int IntKind.i64, Kd.int IntKind.i64] a.1.2.2.2]
noncomputable def de5_26 (vt : List AV) (vc : List Blk) : Option (pl5_26 × sl5_26) :=
  match vt with
  | [qa0, qa1, qa2, qa3, qa4] => (match vc with
  | [qb0, qb1, qb2, qb3] => (match qa0 with
  | AV.rf (4) [Kd.int IntKind.i64, Kd.int IntKind.i64, Kd.int IntKind.i64, Kd.int IntKind.i64] => (match qa1 with
  | AV.int IntKind.i64 t8 => (match qa2 with
  | AV.sl Tk.imm [Kd.int IntKind.i64, Kd.int IntKind.i64, Kd.int IntKind.i64, Kd.int IntKind.i64] t16 => (match qa3 with
  | AV.sl Tk.imm [Kd.int IntKind.i64, Kd.int IntKind.i64, Kd.int IntKind.i64, Kd.int IntKind.i64] t18 => (match qa4 with
  | AV.int IntKind.i64 t20 => (match qb0 with
  | Blk.dead => (match qb1 with
  | Blk.dead => (match qb2 with
  | Blk.dead => (match qb3 with
  | Blk.row [Kd.int IntKind.i64, Kd.int IntKind.i64, Kd.int IntKind.i64, Kd.int IntKind.i64] b4 => (some ((t8, t16, t18, b4), t20))
  | _ => none)
  | _ => none)
  | _ => none)
  | _ => none)
  | _ => none)
  | _ => none)
  | _ => none)
  | _ => none)
  | _ => none)
  | _ => none)
  | _ => none
theorem de5_26_ok (vt : List AV) (vc : List Blk) (a : pl5_26 × sl5_26) (h : de5_26 vt vc = some a) : vt = vt5_26 a ∧ vc = vc5_26 a := by
  unfold de5_26 at h
  split at h
  rotate_left
  · cases h
  split at h
  rotate_left
  · cases h
  split at h
  rotate_left
  · cases h
  split at h
  rotate_left
  · cases h
  split at h
  rotate_left
  · cases h
  split at h
  rotate_left
  · cases h
  split at h
  rotate_left
  · cases h
  split at h
  rotate_left
  · cases h
  split at h
  rotate_left
  · cases h
  split at h
  rotate_left
  · cases h
  split at h
  rotate_left
  · cases h
  injection h with h
  subst h
  exact ⟨rfl, rfl⟩
noncomputable def g5_26 (p : pl5_26) (s : sl5_26) : Bool := go5_26 p.1 p.2.1 p.2.2.1 s p.2.2.2
noncomputable def n5_26 (p : pl5_26) (s : sl5_26) : sl5_26 := nx5_26_3 p.1 p.2.1 p.2.2.1 s p.2.2.2
noncomputable def y5_26 (p : pl5_26) (s : sl5_26) : List (Bool × Out) := [(xc5_26_0 p.1 p.2.1 p.2.2.1 s p.2.2.2, (Ex.ret, [AV.bool false], []))]
noncomputable def z5_26 (p : pl5_26) (s : sl5_26) : Bool := xc5_26_1 p.1 p.2.1 p.2.2.1 s p.2.2.2
noncomputable def d5_26 (p : pl5_26) (s : sl5_26) : Out := (Ex.exit (nat_lit 4), [AV.junk], [])
noncomputable def ls5_26 : St → Option (Bool × List (Bool × Ex × St) × Ex × St) := lspOf [7, 8, 16, 18, 20] [0, 1, 2, 4] [6] [] Try.f5.ntmps (0 + tab.nid 5) de5_26 (spI g5_26 n5_26 y5_26 z5_26 d5_26)
theorem lo5_26 (rest : Lsp) : LoopOK1 (cfg Try.prog tab 100000 (gk k18t 30) (selL 6 ls5_6 (selL 14 ls5_14 (selL 29 ls5_29 (selL 26 ls5_26 rest)))) 5 0 Try.f5.ntmps) (loopAt Try.f5 26) := LoopOK1.iter (i := 26) (by kernel_rfl) [7, 8, 16, 18, 20] [0, 1, 2, 4] [6] [] vt5_26 vc5_26 de5_26 g5_26 n5_26 y5_26 z5_26 d5_26 (fun _ => rfl) de5_26_ok (fun p s => rd5_26 (selL 26 ls5_26 rest) (p.1) (p.2.1) (p.2.2.1) s (p.2.2.2)) (fun _ _ => rfl)
noncomputable def lsp5 : Lsp := (selL 6 ls5_6 (selL 14 ls5_14 (selL 29 ls5_29 (selL 26 ls5_26 noLsp))))
theorem loops5 : ∀ c, Try.f5.body = some c → LoopsOK (cfg Try.prog tab 100000 (gk k18t 30) lsp5 5 ([] : List Blk).length Try.f5.ntmps) c := loops_of [6, 14, 26, 29] (by kernel_rfl) (by kernel_rfl) (fun i hi => by
  simp only [List.mem_cons, List.not_mem_nil, or_false] at hi
  rcases hi with rfl | rfl | rfl | rfl
  · exact lo5_6 (selL 14 ls5_14 (selL 29 ls5_29 (selL 26 ls5_26 noLsp)))
  · exact lo5_14 (selL 29 ls5_29 (selL 26 ls5_26 noLsp))
  · exact lo5_26 noLsp
  · exact lo5_29 (selL 26 ls5_26 noLsp))
noncomputable def vev5_0 (ws : List (List AV)) (cs : List (List AV)) (since : Int) : Bool := bif bif decide ((↑ws.length : Int) > (8 : Int)) then true else bif decide ((↑ws.length : Int) < (2 : Int)) then true else decide ((↑cs.length : Int) > (80 : Int)) then bif bif bif bif bif bif true then vev15_0 (vev11_0 (2 : Int)) (vev13_0 (5000000 : Int) (vev11_0 (2 : Int)) (vev7_1 (0 : Int) (vev11_0 (2 : Int)) (0 : Int) (0 : Int) (0 : Int) (6 : Int)) (vev7_2 (0 : Int) (vev11_0 (2 : Int)) (0 : Int) (0 : Int) (0 : Int) (6 : Int)) (vev7_3 (0 : Int) (vev11_0 (2 : Int)) (0 : Int) (0 : Int) (0 : Int) (6 : Int))) (vev7_2 (0 : Int) (vev11_0 (2 : Int)) (0 : Int) (0 : Int) (0 : Int) (6 : Int)) (vev7_3 (0 : Int) (vev11_0 (2 : Int)) (0 : Int) (0 : Int) (0 : Int) (6 : Int)) == (0 : Int) else false then true else false then true else false then true else false then true else false then true else false else bif xc5_6_0 ws cs since (0 : Int) (finL (g5_6 (ws, cs, since, (0 : Int))) (n5_6 (ws, cs, since, (0 : Int))) ((0 : Int), [])).fst (finL (g5_6 (ws, cs, since, (0 : Int))) (n5_6 (ws, cs, since, (0 : Int))) ((0 : Int), [])).snd then false else bif bif (↑(vev18t_0 Tk.lent Tk.lent (finL (g5_6 (ws, cs, since, (0 : Int))) (n5_6 (ws, cs, since, (0 : Int))) ((0 : Int), [])).snd (finL (g5_14 (cs, since, (finL (g5_6 (ws, cs, since, (0 : Int))) (n5_6 (ws, cs, since, (0 : Int))) ((0 : Int), [])).snd)) (n5_14 (cs, since, (finL (g5_6 (ws, cs, since, (0 : Int))) (n5_6 (ws, cs, since, (0 : Int))) ((0 : Int), [])).snd)) ((0 : Int), (0 : Int), [], [])).snd.snd.snd).length : Int) != (↑(finL (g5_6 (ws, cs, since, (0 : Int))) (n5_6 (ws, cs, since, (0 : Int))) ((0 : Int), [])).snd.length : Int) then true else bif (↑(vev18t_0 Tk.lent Tk.lent (finL (g5_6 (ws, cs, since, (0 : Int))) (n5_6 (ws, cs, since, (0 : Int))) ((0 : Int), [])).snd (finL (g5_14 (cs, since, (finL (g5_6 (ws, cs, since, (0 : Int))) (n5_6 (ws, cs, since, (0 : Int))) ((0 : Int), [])).snd)) (n5_14 (cs, since, (finL (g5_6 (ws, cs, since, (0 : Int))) (n5_6 (ws, cs, since, (0 : Int))) ((0 : Int), [])).snd)) ((0 : Int), (0 : Int), [], [])).snd.snd.fst).length : Int) != (↑(finL (g5_6 (ws, cs, since, (0 : Int))) (n5_6 (ws, cs, since, (0 : Int))) ((0 : Int), [])).snd.length : Int) then true else (↑(vev18t_1 Tk.lent Tk.lent (finL (g5_6 (ws, cs, since, (0 : Int))) (n5_6 (ws, cs, since, (0 : Int))) ((0 : Int), [])).snd (finL (g5_14 (cs, since, (finL (g5_6 (ws, cs, since, (0 : Int))) (n5_6 (ws, cs, since, (0 : Int))) ((0 : Int), [])).snd)) (n5_14 (cs, since, (finL (g5_6 (ws, cs, since, (0 : Int))) (n5_6 (ws, cs, since, (0 : Int))) ((0 : Int), [])).snd)) ((0 : Int), (0 : Int), [], [])).snd.snd.fst).length : Int) != (↑(finL (g5_14 (cs, since, (finL (g5_6 (ws, cs, since, (0 : Int))) (n5_6 (ws, cs, since, (0 : Int))) ((0 : Int), [])).snd)) (n5_14 (cs, since, (finL (g5_6 (ws, cs, since, (0 : Int))) (n5_6 (ws, cs, since, (0 : Int))) ((0 : Int), [])).snd)) ((0 : Int), (0 : Int), [], [])).snd.snd.fst.length : Int) then false else bif xc5_26_0 (finL (g5_14 (cs, since, (finL (g5_6 (ws, cs, since, (0 : Int))) (n5_6 (ws, cs, since, (0 : Int))) ((0 : Int), [])).snd)) (n5_14 (cs, since, (finL (g5_6 (ws, cs, since, (0 : Int))) (n5_6 (ws, cs, since, (0 : Int))) ((0 : Int), [])).snd)) ((0 : Int), (0 : Int), [], [])).fst (vev18t_0 Tk.lent Tk.lent (finL (g5_6 (ws, cs, since, (0 : Int))) (n5_6 (ws, cs, since, (0 : Int))) ((0 : Int), [])).snd (finL (g5_14 (cs, since, (finL (g5_6 (ws, cs, since, (0 : Int))) (n5_6 (ws, cs, since, (0 : Int))) ((0 : Int), [])).snd)) (n5_14 (cs, since, (finL (g5_6 (ws, cs, since, (0 : Int))) (n5_6 (ws, cs, since, (0 : Int))) ((0 : Int), [])).snd)) ((0 : Int), (0 : Int), [], [])).snd.snd.snd) (vev18t_0 Tk.lent Tk.lent (finL (g5_6 (ws, cs, since, (0 : Int))) (n5_6 (ws, cs, since, (0 : Int))) ((0 : Int), [])).snd (finL (g5_14 (cs, since, (finL (g5_6 (ws, cs, since, (0 : Int))) (n5_6 (ws, cs, since, (0 : Int))) ((0 : Int), [])).snd)) (n5_14 (cs, since, (finL (g5_6 (ws, cs, since, (0 : Int))) (n5_6 (ws, cs, since, (0 : Int))) ((0 : Int), [])).snd)) ((0 : Int), (0 : Int), [], [])).snd.snd.fst) (finL (g5_26 ((finL (g5_14 (cs, since, (finL (g5_6 (ws, cs, since, (0 : Int))) (n5_6 (ws, cs, since, (0 : Int))) ((0 : Int), [])).snd)) (n5_14 (cs, since, (finL (g5_6 (ws, cs, since, (0 : Int))) (n5_6 (ws, cs, since, (0 : Int))) ((0 : Int), [])).snd)) ((0 : Int), (0 : Int), [], [])).fst, vev18t_0 Tk.lent Tk.lent (finL (g5_6 (ws, cs, since, (0 : Int))) (n5_6 (ws, cs, since, (0 : Int))) ((0 : Int), [])).snd (finL (g5_14 (cs, since, (finL (g5_6 (ws, cs, since, (0 : Int))) (n5_6 (ws, cs, since, (0 : Int))) ((0 : Int), [])).snd)) (n5_14 (cs, since, (finL (g5_6 (ws, cs, since, (0 : Int))) (n5_6 (ws, cs, since, (0 : Int))) ((0 : Int), [])).snd)) ((0 : Int), (0 : Int), [], [])).snd.snd.snd, vev18t_0 Tk.lent Tk.lent (finL (g5_6 (ws, cs, since, (0 : Int))) (n5_6 (ws, cs, since, (0 : Int))) ((0 : Int), [])).snd (finL (g5_14 (cs, since, (finL (g5_6 (ws, cs, since, (0 : Int))) (n5_6 (ws, cs, since, (0 : Int))) ((0 : Int), [])).snd)) (n5_14 (cs, since, (finL (g5_6 (ws, cs, since, (0 : Int))) (n5_6 (ws, cs, since, (0 : Int))) ((0 : Int), [])).snd)) ((0 : Int), (0 : Int), [], [])).snd.snd.fst, (finL (g5_6 (ws, cs, since, (0 : Int))) (n5_6 (ws, cs, since, (0 : Int))) ((0 : Int), [])).snd)) (n5_26 ((finL (g5_14 (cs, since, (finL (g5_6 (ws, cs, since, (0 : Int))) (n5_6 (ws, cs, since, (0 : Int))) ((0 : Int), [])).snd)) (n5_14 (cs, since, (finL (g5_6 (ws, cs, since, (0 : Int))) (n5_6 (ws, cs, since, (0 : Int))) ((0 : Int), [])).snd)) ((0 : Int), (0 : Int), [], [])).fst, vev18t_0 Tk.lent Tk.lent (finL (g5_6 (ws, cs, since, (0 : Int))) (n5_6 (ws, cs, since, (0 : Int))) ((0 : Int), [])).snd (finL (g5_14 (cs, since, (finL (g5_6 (ws, cs, since, (0 : Int))) (n5_6 (ws, cs, since, (0 : Int))) ((0 : Int), [])).snd)) (n5_14 (cs, since, (finL (g5_6 (ws, cs, since, (0 : Int))) (n5_6 (ws, cs, since, (0 : Int))) ((0 : Int), [])).snd)) ((0 : Int), (0 : Int), [], [])).snd.snd.snd, vev18t_0 Tk.lent Tk.lent (finL (g5_6 (ws, cs, since, (0 : Int))) (n5_6 (ws, cs, since, (0 : Int))) ((0 : Int), [])).snd (finL (g5_14 (cs, since, (finL (g5_6 (ws, cs, since, (0 : Int))) (n5_6 (ws, cs, since, (0 : Int))) ((0 : Int), [])).snd)) (n5_14 (cs, since, (finL (g5_6 (ws, cs, since, (0 : Int))) (n5_6 (ws, cs, since, (0 : Int))) ((0 : Int), [])).snd)) ((0 : Int), (0 : Int), [], [])).snd.snd.fst, (finL (g5_6 (ws, cs, since, (0 : Int))) (n5_6 (ws, cs, since, (0 : Int))) ((0 : Int), [])).snd)) (0 : Int)) (finL (g5_6 (ws, cs, since, (0 : Int))) (n5_6 (ws, cs, since, (0 : Int))) ((0 : Int), [])).snd then false else bif bif bif bif bif bif true then vev15_0 (vev11_0 (2 : Int)) (vev13_0 (5000000 : Int) (vev11_0 (2 : Int)) (vev7_1 (0 : Int) (vev11_0 (2 : Int)) (0 : Int) (0 : Int) (0 : Int) (6 : Int)) (vev7_2 (0 : Int) (vev11_0 (2 : Int)) (0 : Int) (0 : Int) (0 : Int) (6 : Int)) (vev7_3 (0 : Int) (vev11_0 (2 : Int)) (0 : Int) (0 : Int) (0 : Int) (6 : Int))) (vev7_2 (0 : Int) (vev11_0 (2 : Int)) (0 : Int) (0 : Int) (0 : Int) (6 : Int)) (vev7_3 (0 : Int) (vev11_0 (2 : Int)) (0 : Int) (0 : Int) (0 : Int) (6 : Int)) == (0 : Int) else false then true else false then true else false then true else false then true else false then true else false
noncomputable def vev5_1 (ws : List (List AV)) (cs : List (List AV)) (since : Int) : Bool := bif bif decide ((↑ws.length : Int) > (8 : Int)) then true else bif decide ((↑ws.length : Int) < (2 : Int)) then true else decide ((↑cs.length : Int) > (80 : Int)) then true else bif (spI g5_6 n5_6 y5_6 z5_6 d5_6 ((ws, cs, since, (0 : Int)), (0 : Int), [])).fst then bif xc5_6_0 ws cs since (0 : Int) (finL (g5_6 (ws, cs, since, (0 : Int))) (n5_6 (ws, cs, since, (0 : Int))) ((0 : Int), [])).fst (finL (g5_6 (ws, cs, since, (0 : Int))) (n5_6 (ws, cs, since, (0 : Int))) ((0 : Int), [])).snd then true else bif (spI g5_14 n5_14 y5_14 z5_14 d5_14 ((cs, since, (finL (g5_6 (ws, cs, since, (0 : Int))) (n5_6 (ws, cs, since, (0 : Int))) ((0 : Int), [])).snd), (0 : Int), (0 : Int), [], [])).fst then bif vev18t_2 Tk.lent Tk.lent (finL (g5_6 (ws, cs, since, (0 : Int))) (n5_6 (ws, cs, since, (0 : Int))) ((0 : Int), [])).snd (finL (g5_14 (cs, since, (finL (g5_6 (ws, cs, since, (0 : Int))) (n5_6 (ws, cs, since, (0 : Int))) ((0 : Int), [])).snd)) (n5_14 (cs, since, (finL (g5_6 (ws, cs, since, (0 : Int))) (n5_6 (ws, cs, since, (0 : Int))) ((0 : Int), [])).snd)) ((0 : Int), (0 : Int), [], [])).snd.snd.snd then bif vev18t_2 Tk.lent Tk.lent (finL (g5_6 (ws, cs, since, (0 : Int))) (n5_6 (ws, cs, since, (0 : Int))) ((0 : Int), [])).snd (finL (g5_14 (cs, since, (finL (g5_6 (ws, cs, since, (0 : Int))) (n5_6 (ws, cs, since, (0 : Int))) ((0 : Int), [])).snd)) (n5_14 (cs, since, (finL (g5_6 (ws, cs, since, (0 : Int))) (n5_6 (ws, cs, since, (0 : Int))) ((0 : Int), [])).snd)) ((0 : Int), (0 : Int), [], [])).snd.snd.fst then bif bif (↑(vev18t_0 Tk.lent Tk.lent (finL (g5_6 (ws, cs, since, (0 : Int))) (n5_6 (ws, cs, since, (0 : Int))) ((0 : Int), [])).snd (finL (g5_14 (cs, since, (finL (g5_6 (ws, cs, since, (0 : Int))) (n5_6 (ws, cs, since, (0 : Int))) ((0 : Int), [])).snd)) (n5_14 (cs, since, (finL (g5_6 (ws, cs, since, (0 : Int))) (n5_6 (ws, cs, since, (0 : Int))) ((0 : Int), [])).snd)) ((0 : Int), (0 : Int), [], [])).snd.snd.snd).length : Int) != (↑(finL (g5_6 (ws, cs, since, (0 : Int))) (n5_6 (ws, cs, since, (0 : Int))) ((0 : Int), [])).snd.length : Int) then true else bif (↑(vev18t_0 Tk.lent Tk.lent (finL (g5_6 (ws, cs, since, (0 : Int))) (n5_6 (ws, cs, since, (0 : Int))) ((0 : Int), [])).snd (finL (g5_14 (cs, since, (finL (g5_6 (ws, cs, since, (0 : Int))) (n5_6 (ws, cs, since, (0 : Int))) ((0 : Int), [])).snd)) (n5_14 (cs, since, (finL (g5_6 (ws, cs, since, (0 : Int))) (n5_6 (ws, cs, since, (0 : Int))) ((0 : Int), [])).snd)) ((0 : Int), (0 : Int), [], [])).snd.snd.fst).length : Int) != (↑(finL (g5_6 (ws, cs, since, (0 : Int))) (n5_6 (ws, cs, since, (0 : Int))) ((0 : Int), [])).snd.length : Int) then true else (↑(vev18t_1 Tk.lent Tk.lent (finL (g5_6 (ws, cs, since, (0 : Int))) (n5_6 (ws, cs, since, (0 : Int))) ((0 : Int), [])).snd (finL (g5_14 (cs, since, (finL (g5_6 (ws, cs, since, (0 : Int))) (n5_6 (ws, cs, since, (0 : Int))) ((0 : Int), [])).snd)) (n5_14 (cs, since, (finL (g5_6 (ws, cs, since, (0 : Int))) (n5_6 (ws, cs, since, (0 : Int))) ((0 : Int), [])).snd)) ((0 : Int), (0 : Int), [], [])).snd.snd.fst).length : Int) != (↑(finL (g5_14 (cs, since, (finL (g5_6 (ws, cs, since, (0 : Int))) (n5_6 (ws, cs, since, (0 : Int))) ((0 : Int), [])).snd)) (n5_14 (cs, since, (finL (g5_6 (ws, cs, since, (0 : Int))) (n5_6 (ws, cs, since, (0 : Int))) ((0 : Int), [])).snd)) ((0 : Int), (0 : Int), [], [])).snd.snd.fst.length : Int) then true else bif (spI g5_26 n5_26 y5_26 z5_26 d5_26 (((finL (g5_14 (cs, since, (finL (g5_6 (ws, cs, since, (0 : Int))) (n5_6 (ws, cs, since, (0 : Int))) ((0 : Int), [])).snd)) (n5_14 (cs, since, (finL (g5_6 (ws, cs, since, (0 : Int))) (n5_6 (ws, cs, since, (0 : Int))) ((0 : Int), [])).snd)) ((0 : Int), (0 : Int), [], [])).fst, vev18t_0 Tk.lent Tk.lent (finL (g5_6 (ws, cs, since, (0 : Int))) (n5_6 (ws, cs, since, (0 : Int))) ((0 : Int), [])).snd (finL (g5_14 (cs, since, (finL (g5_6 (ws, cs, since, (0 : Int))) (n5_6 (ws, cs, since, (0 : Int))) ((0 : Int), [])).snd)) (n5_14 (cs, since, (finL (g5_6 (ws, cs, since, (0 : Int))) (n5_6 (ws, cs, since, (0 : Int))) ((0 : Int), [])).snd)) ((0 : Int), (0 : Int), [], [])).snd.snd.snd, vev18t_0 Tk.lent Tk.lent (finL (g5_6 (ws, cs, since, (0 : Int))) (n5_6 (ws, cs, since, (0 : Int))) ((0 : Int), [])).snd (finL (g5_14 (cs, since, (finL (g5_6 (ws, cs, since, (0 : Int))) (n5_6 (ws, cs, since, (0 : Int))) ((0 : Int), [])).snd)) (n5_14 (cs, since, (finL (g5_6 (ws, cs, since, (0 : Int))) (n5_6 (ws, cs, since, (0 : Int))) ((0 : Int), [])).snd)) ((0 : Int), (0 : Int), [], [])).snd.snd.fst, (finL (g5_6 (ws, cs, since, (0 : Int))) (n5_6 (ws, cs, since, (0 : Int))) ((0 : Int), [])).snd), (0 : Int))).fst then true else false else false else false else false else false
theorem ev5 (ws : List (List AV)) (cs : List (List AV)) (since : Int) : evFun (cfg Try.prog tab 100000 (gk k18t 30) lsp5 5 ([] : List Blk).length Try.f5.ntmps) Try.f5 [.sl .imm [.int .u8] ws, .sl .imm [.int .u16] cs, .int .u8 since] [] = bif vev5_1 ws cs since then some (AV.bool (vev5_0 ws cs since), []) else none := by
  have h : evFun (cfg Try.prog tab 100000 (gk k18t 30) lsp5 5 ([] : List Blk).length Try.f5.ntmps) Try.f5 [.sl .imm [.int .u8] ws, .sl .imm [.int .u16] cs, .int .u8 since] [] = bif bif decide ((↑ws.length : Int) > (8 : Int)) then true else bif bif false then true else decide ((↑ws.length : Int) < (2 : Int)) then true else true then bif bif decide ((↑ws.length : Int) > (8 : Int)) then true else bif bif false then true else decide ((↑ws.length : Int) < (2 : Int)) then true else bif false then true else decide ((↑cs.length : Int) > (80 : Int)) then some (AV.bool (bif bif bif bif bif bif true then vev15_0 (vev11_0 (2 : Int)) (vev13_0 (5000000 : Int) (vev11_0 (2 : Int)) (vev7_1 (0 : Int) (vev11_0 (2 : Int)) (0 : Int) (0 : Int) (0 : Int) (6 : Int)) (vev7_2 (0 : Int) (vev11_0 (2 : Int)) (0 : Int) (0 : Int) (0 : Int) (6 : Int)) (vev7_3 (0 : Int) (vev11_0 (2 : Int)) (0 : Int) (0 : Int) (0 : Int) (6 : Int))) (vev7_2 (0 : Int) (vev11_0 (2 : Int)) (0 : Int) (0 : Int) (0 : Int) (6 : Int)) (vev7_3 (0 : Int) (vev11_0 (2 : Int)) (0 : Int) (0 : Int) (0 : Int) (6 : Int)) == (0 : Int) else false then true else false then true else false then true else false then true else false then true else false), []) else bif (spI g5_6 n5_6 y5_6 z5_6 d5_6 ((ws, cs, since, (0 : Int)), (0 : Int), [])).fst then bif xc5_6_0 ws cs since (0 : Int) (finL (g5_6 (ws, cs, since, (0 : Int))) (n5_6 (ws, cs, since, (0 : Int))) ((0 : Int), [])).fst (finL (g5_6 (ws, cs, since, (0 : Int))) (n5_6 (ws, cs, since, (0 : Int))) ((0 : Int), [])).snd then some (AV.bool false, []) else bif (spI g5_14 n5_14 y5_14 z5_14 d5_14 ((cs, since, (finL (g5_6 (ws, cs, since, (0 : Int))) (n5_6 (ws, cs, since, (0 : Int))) ((0 : Int), [])).snd), (0 : Int), (0 : Int), [], [])).fst then bif vev18t_2 Tk.lent Tk.lent (finL (g5_6 (ws, cs, since, (0 : Int))) (n5_6 (ws, cs, since, (0 : Int))) ((0 : Int), [])).snd (finL (g5_14 (cs, since, (finL (g5_6 (ws, cs, since, (0 : Int))) (n5_6 (ws, cs, since, (0 : Int))) ((0 : Int), [])).snd)) (n5_14 (cs, since, (finL (g5_6 (ws, cs, since, (0 : Int))) (n5_6 (ws, cs, since, (0 : Int))) ((0 : Int), [])).snd)) ((0 : Int), (0 : Int), [], [])).snd.snd.snd then bif vev18t_2 Tk.lent Tk.lent (finL (g5_6 (ws, cs, since, (0 : Int))) (n5_6 (ws, cs, since, (0 : Int))) ((0 : Int), [])).snd (finL (g5_14 (cs, since, (finL (g5_6 (ws, cs, since, (0 : Int))) (n5_6 (ws, cs, since, (0 : Int))) ((0 : Int), [])).snd)) (n5_14 (cs, since, (finL (g5_6 (ws, cs, since, (0 : Int))) (n5_6 (ws, cs, since, (0 : Int))) ((0 : Int), [])).snd)) ((0 : Int), (0 : Int), [], [])).snd.snd.fst then bif bif (↑(vev18t_0 Tk.lent Tk.lent (finL (g5_6 (ws, cs, since, (0 : Int))) (n5_6 (ws, cs, since, (0 : Int))) ((0 : Int), [])).snd (finL (g5_14 (cs, since, (finL (g5_6 (ws, cs, since, (0 : Int))) (n5_6 (ws, cs, since, (0 : Int))) ((0 : Int), [])).snd)) (n5_14 (cs, since, (finL (g5_6 (ws, cs, since, (0 : Int))) (n5_6 (ws, cs, since, (0 : Int))) ((0 : Int), [])).snd)) ((0 : Int), (0 : Int), [], [])).snd.snd.snd).length : Int) != (↑(finL (g5_6 (ws, cs, since, (0 : Int))) (n5_6 (ws, cs, since, (0 : Int))) ((0 : Int), [])).snd.length : Int) then true else bif bif false then true else (↑(vev18t_0 Tk.lent Tk.lent (finL (g5_6 (ws, cs, since, (0 : Int))) (n5_6 (ws, cs, since, (0 : Int))) ((0 : Int), [])).snd (finL (g5_14 (cs, since, (finL (g5_6 (ws, cs, since, (0 : Int))) (n5_6 (ws, cs, since, (0 : Int))) ((0 : Int), [])).snd)) (n5_14 (cs, since, (finL (g5_6 (ws, cs, since, (0 : Int))) (n5_6 (ws, cs, since, (0 : Int))) ((0 : Int), [])).snd)) ((0 : Int), (0 : Int), [], [])).snd.snd.fst).length : Int) != (↑(finL (g5_6 (ws, cs, since, (0 : Int))) (n5_6 (ws, cs, since, (0 : Int))) ((0 : Int), [])).snd.length : Int) then true else true then bif bif (↑(vev18t_0 Tk.lent Tk.lent (finL (g5_6 (ws, cs, since, (0 : Int))) (n5_6 (ws, cs, since, (0 : Int))) ((0 : Int), [])).snd (finL (g5_14 (cs, since, (finL (g5_6 (ws, cs, since, (0 : Int))) (n5_6 (ws, cs, since, (0 : Int))) ((0 : Int), [])).snd)) (n5_14 (cs, since, (finL (g5_6 (ws, cs, since, (0 : Int))) (n5_6 (ws, cs, since, (0 : Int))) ((0 : Int), [])).snd)) ((0 : Int), (0 : Int), [], [])).snd.snd.snd).length : Int) != (↑(finL (g5_6 (ws, cs, since, (0 : Int))) (n5_6 (ws, cs, since, (0 : Int))) ((0 : Int), [])).snd.length : Int) then true else bif bif false then true else (↑(vev18t_0 Tk.lent Tk.lent (finL (g5_6 (ws, cs, since, (0 : Int))) (n5_6 (ws, cs, since, (0 : Int))) ((0 : Int), [])).snd (finL (g5_14 (cs, since, (finL (g5_6 (ws, cs, since, (0 : Int))) (n5_6 (ws, cs, since, (0 : Int))) ((0 : Int), [])).snd)) (n5_14 (cs, since, (finL (g5_6 (ws, cs, since, (0 : Int))) (n5_6 (ws, cs, since, (0 : Int))) ((0 : Int), [])).snd)) ((0 : Int), (0 : Int), [], [])).snd.snd.fst).length : Int) != (↑(finL (g5_6 (ws, cs, since, (0 : Int))) (n5_6 (ws, cs, since, (0 : Int))) ((0 : Int), [])).snd.length : Int) then true else bif false then true else (↑(vev18t_1 Tk.lent Tk.lent (finL (g5_6 (ws, cs, since, (0 : Int))) (n5_6 (ws, cs, since, (0 : Int))) ((0 : Int), [])).snd (finL (g5_14 (cs, since, (finL (g5_6 (ws, cs, since, (0 : Int))) (n5_6 (ws, cs, since, (0 : Int))) ((0 : Int), [])).snd)) (n5_14 (cs, since, (finL (g5_6 (ws, cs, since, (0 : Int))) (n5_6 (ws, cs, since, (0 : Int))) ((0 : Int), [])).snd)) ((0 : Int), (0 : Int), [], [])).snd.snd.fst).length : Int) != (↑(finL (g5_14 (cs, since, (finL (g5_6 (ws, cs, since, (0 : Int))) (n5_6 (ws, cs, since, (0 : Int))) ((0 : Int), [])).snd)) (n5_14 (cs, since, (finL (g5_6 (ws, cs, since, (0 : Int))) (n5_6 (ws, cs, since, (0 : Int))) ((0 : Int), [])).snd)) ((0 : Int), (0 : Int), [], [])).snd.snd.fst.length : Int) then some (AV.bool false, []) else bif (spI g5_26 n5_26 y5_26 z5_26 d5_26 (((finL (g5_14 (cs, since, (finL (g5_6 (ws, cs, since, (0 : Int))) (n5_6 (ws, cs, since, (0 : Int))) ((0 : Int), [])).snd)) (n5_14 (cs, since, (finL (g5_6 (ws, cs, since, (0 : Int))) (n5_6 (ws, cs, since, (0 : Int))) ((0 : Int), [])).snd)) ((0 : Int), (0 : Int), [], [])).fst, vev18t_0 Tk.lent Tk.lent (finL (g5_6 (ws, cs, since, (0 : Int))) (n5_6 (ws, cs, since, (0 : Int))) ((0 : Int), [])).snd (finL (g5_14 (cs, since, (finL (g5_6 (ws, cs, since, (0 : Int))) (n5_6 (ws, cs, since, (0 : Int))) ((0 : Int), [])).snd)) (n5_14 (cs, since, (finL (g5_6 (ws, cs, since, (0 : Int))) (n5_6 (ws, cs, since, (0 : Int))) ((0 : Int), [])).snd)) ((0 : Int), (0 : Int), [], [])).snd.snd.snd, vev18t_0 Tk.lent Tk.lent (finL (g5_6 (ws, cs, since, (0 : Int))) (n5_6 (ws, cs, since, (0 : Int))) ((0 : Int), [])).snd (finL (g5_14 (cs, since, (finL (g5_6 (ws, cs, since, (0 : Int))) (n5_6 (ws, cs, since, (0 : Int))) ((0 : Int), [])).snd)) (n5_14 (cs, since, (finL (g5_6 (ws, cs, since, (0 : Int))) (n5_6 (ws, cs, since, (0 : Int))) ((0 : Int), [])).snd)) ((0 : Int), (0 : Int), [], [])).snd.snd.fst, (finL (g5_6 (ws, cs, since, (0 : Int))) (n5_6 (ws, cs, since, (0 : Int))) ((0 : Int), [])).snd), (0 : Int))).fst then bif xc5_26_0 (finL (g5_14 (cs, since, (finL (g5_6 (ws, cs, since, (0 : Int))) (n5_6 (ws, cs, since, (0 : Int))) ((0 : Int), [])).snd)) (n5_14 (cs, since, (finL (g5_6 (ws, cs, since, (0 : Int))) (n5_6 (ws, cs, since, (0 : Int))) ((0 : Int), [])).snd)) ((0 : Int), (0 : Int), [], [])).fst (vev18t_0 Tk.lent Tk.lent (finL (g5_6 (ws, cs, since, (0 : Int))) (n5_6 (ws, cs, since, (0 : Int))) ((0 : Int), [])).snd (finL (g5_14 (cs, since, (finL (g5_6 (ws, cs, since, (0 : Int))) (n5_6 (ws, cs, since, (0 : Int))) ((0 : Int), [])).snd)) (n5_14 (cs, since, (finL (g5_6 (ws, cs, since, (0 : Int))) (n5_6 (ws, cs, since, (0 : Int))) ((0 : Int), [])).snd)) ((0 : Int), (0 : Int), [], [])).snd.snd.snd) (vev18t_0 Tk.lent Tk.lent (finL (g5_6 (ws, cs, since, (0 : Int))) (n5_6 (ws, cs, since, (0 : Int))) ((0 : Int), [])).snd (finL (g5_14 (cs, since, (finL (g5_6 (ws, cs, since, (0 : Int))) (n5_6 (ws, cs, since, (0 : Int))) ((0 : Int), [])).snd)) (n5_14 (cs, since, (finL (g5_6 (ws, cs, since, (0 : Int))) (n5_6 (ws, cs, since, (0 : Int))) ((0 : Int), [])).snd)) ((0 : Int), (0 : Int), [], [])).snd.snd.fst) (finL (g5_26 ((finL (g5_14 (cs, since, (finL (g5_6 (ws, cs, since, (0 : Int))) (n5_6 (ws, cs, since, (0 : Int))) ((0 : Int), [])).snd)) (n5_14 (cs, since, (finL (g5_6 (ws, cs, since, (0 : Int))) (n5_6 (ws, cs, since, (0 : Int))) ((0 : Int), [])).snd)) ((0 : Int), (0 : Int), [], [])).fst, vev18t_0 Tk.lent Tk.lent (finL (g5_6 (ws, cs, since, (0 : Int))) (n5_6 (ws, cs, since, (0 : Int))) ((0 : Int), [])).snd (finL (g5_14 (cs, since, (finL (g5_6 (ws, cs, since, (0 : Int))) (n5_6 (ws, cs, since, (0 : Int))) ((0 : Int), [])).snd)) (n5_14 (cs, since, (finL (g5_6 (ws, cs, since, (0 : Int))) (n5_6 (ws, cs, since, (0 : Int))) ((0 : Int), [])).snd)) ((0 : Int), (0 : Int), [], [])).snd.snd.snd, vev18t_0 Tk.lent Tk.lent (finL (g5_6 (ws, cs, since, (0 : Int))) (n5_6 (ws, cs, since, (0 : Int))) ((0 : Int), [])).snd (finL (g5_14 (cs, since, (finL (g5_6 (ws, cs, since, (0 : Int))) (n5_6 (ws, cs, since, (0 : Int))) ((0 : Int), [])).snd)) (n5_14 (cs, since, (finL (g5_6 (ws, cs, since, (0 : Int))) (n5_6 (ws, cs, since, (0 : Int))) ((0 : Int), [])).snd)) ((0 : Int), (0 : Int), [], [])).snd.snd.fst, (finL (g5_6 (ws, cs, since, (0 : Int))) (n5_6 (ws, cs, since, (0 : Int))) ((0 : Int), [])).snd)) (n5_26 ((finL (g5_14 (cs, since, (finL (g5_6 (ws, cs, since, (0 : Int))) (n5_6 (ws, cs, since, (0 : Int))) ((0 : Int), [])).snd)) (n5_14 (cs, since, (finL (g5_6 (ws, cs, since, (0 : Int))) (n5_6 (ws, cs, since, (0 : Int))) ((0 : Int), [])).snd)) ((0 : Int), (0 : Int), [], [])).fst, vev18t_0 Tk.lent Tk.lent (finL (g5_6 (ws, cs, since, (0 : Int))) (n5_6 (ws, cs, since, (0 : Int))) ((0 : Int), [])).snd (finL (g5_14 (cs, since, (finL (g5_6 (ws, cs, since, (0 : Int))) (n5_6 (ws, cs, since, (0 : Int))) ((0 : Int), [])).snd)) (n5_14 (cs, since, (finL (g5_6 (ws, cs, since, (0 : Int))) (n5_6 (ws, cs, since, (0 : Int))) ((0 : Int), [])).snd)) ((0 : Int), (0 : Int), [], [])).snd.snd.snd, vev18t_0 Tk.lent Tk.lent (finL (g5_6 (ws, cs, since, (0 : Int))) (n5_6 (ws, cs, since, (0 : Int))) ((0 : Int), [])).snd (finL (g5_14 (cs, since, (finL (g5_6 (ws, cs, since, (0 : Int))) (n5_6 (ws, cs, since, (0 : Int))) ((0 : Int), [])).snd)) (n5_14 (cs, since, (finL (g5_6 (ws, cs, since, (0 : Int))) (n5_6 (ws, cs, since, (0 : Int))) ((0 : Int), [])).snd)) ((0 : Int), (0 : Int), [], [])).snd.snd.fst, (finL (g5_6 (ws, cs, since, (0 : Int))) (n5_6 (ws, cs, since, (0 : Int))) ((0 : Int), [])).snd)) (0 : Int)) (finL (g5_6 (ws, cs, since, (0 : Int))) (n5_6 (ws, cs, since, (0 : Int))) ((0 : Int), [])).snd then some (AV.bool false, []) else some (AV.bool (bif bif bif bif bif bif true then vev15_0 (vev11_0 (2 : Int)) (vev13_0 (5000000 : Int) (vev11_0 (2 : Int)) (vev7_1 (0 : Int) (vev11_0 (2 : Int)) (0 : Int) (0 : Int) (0 : Int) (6 : Int)) (vev7_2 (0 : Int) (vev11_0 (2 : Int)) (0 : Int) (0 : Int) (0 : Int) (6 : Int)) (vev7_3 (0 : Int) (vev11_0 (2 : Int)) (0 : Int) (0 : Int) (0 : Int) (6 : Int))) (vev7_2 (0 : Int) (vev11_0 (2 : Int)) (0 : Int) (0 : Int) (0 : Int) (6 : Int)) (vev7_3 (0 : Int) (vev11_0 (2 : Int)) (0 : Int) (0 : Int) (0 : Int) (6 : Int)) == (0 : Int) else false then true else false then true else false then true else false then true else false then true else false), []) else none else none else none else none else none else none else none := by kernel_rfl
  rw [h]
  clear h
  unfold vev5_0 vev5_1
  generalize (xc5_26_0 (finL (g5_14 (cs, since, (finL (g5_6 (ws, cs, since, (0 : Int))) (n5_6 (ws, cs, since, (0 : Int))) ((0 : Int), [])).snd)) (n5_14 (cs, since, (finL (g5_6 (ws, cs, since, (0 : Int))) (n5_6 (ws, cs, since, (0 : Int))) ((0 : Int), [])).snd)) ((0 : Int), (0 : Int), [], [])).fst (vev18t_0 Tk.lent Tk.lent (finL (g5_6 (ws, cs, since, (0 : Int))) (n5_6 (ws, cs, since, (0 : Int))) ((0 : Int), [])).snd (finL (g5_14 (cs, since, (finL (g5_6 (ws, cs, since, (0 : Int))) (n5_6 (ws, cs, since, (0 : Int))) ((0 : Int), [])).snd)) (n5_14 (cs, since, (finL (g5_6 (ws, cs, since, (0 : Int))) (n5_6 (ws, cs, since, (0 : Int))) ((0 : Int), [])).snd)) ((0 : Int), (0 : Int), [], [])).snd.snd.snd) (vev18t_0 Tk.lent Tk.lent (finL (g5_6 (ws, cs, since, (0 : Int))) (n5_6 (ws, cs, since, (0 : Int))) ((0 : Int), [])).snd (finL (g5_14 (cs, since, (finL (g5_6 (ws, cs, since, (0 : Int))) (n5_6 (ws, cs, since, (0 : Int))) ((0 : Int), [])).snd)) (n5_14 (cs, since, (finL (g5_6 (ws, cs, since, (0 : Int))) (n5_6 (ws, cs, since, (0 : Int))) ((0 : Int), [])).snd)) ((0 : Int), (0 : Int), [], [])).snd.snd.fst) (finL (g5_26 ((finL (g5_14 (cs, since, (finL (g5_6 (ws, cs, since, (0 : Int))) (n5_6 (ws, cs, since, (0 : Int))) ((0 : Int), [])).snd)) (n5_14 (cs, since, (finL (g5_6 (ws, cs, since, (0 : Int))) (n5_6 (ws, cs, since, (0 : Int))) ((0 : Int), [])).snd)) ((0 : Int), (0 : Int), [], [])).fst, vev18t_0 Tk.lent Tk.lent (finL (g5_6 (ws, cs, since, (0 : Int))) (n5_6 (ws, cs, since, (0 : Int))) ((0 : Int), [])).snd (finL (g5_14 (cs, since, (finL (g5_6 (ws, cs, since, (0 : Int))) (n5_6 (ws, cs, since, (0 : Int))) ((0 : Int), [])).snd)) (n5_14 (cs, since, (finL (g5_6 (ws, cs, since, (0 : Int))) (n5_6 (ws, cs, since, (0 : Int))) ((0 : Int), [])).snd)) ((0 : Int), (0 : Int), [], [])).snd.snd.snd, vev18t_0 Tk.lent Tk.lent (finL (g5_6 (ws, cs, since, (0 : Int))) (n5_6 (ws, cs, since, (0 : Int))) ((0 : Int), [])).snd (finL (g5_14 (cs, since, (finL (g5_6 (ws, cs, since, (0 : Int))) (n5_6 (ws, cs, since, (0 : Int))) ((0 : Int), [])).snd)) (n5_14 (cs, since, (finL (g5_6 (ws, cs, since, (0 : Int))) (n5_6 (ws, cs, since, (0 : Int))) ((0 : Int), [])).snd)) ((0 : Int), (0 : Int), [], [])).snd.snd.fst, (finL (g5_6 (ws, cs, since, (0 : Int))) (n5_6 (ws, cs, since, (0 : Int))) ((0 : Int), [])).snd)) (n5_26 ((finL (g5_14 (cs, since, (finL (g5_6 (ws, cs, since, (0 : Int))) (n5_6 (ws, cs, since, (0 : Int))) ((0 : Int), [])).snd)) (n5_14 (cs, since, (finL (g5_6 (ws, cs, since, (0 : Int))) (n5_6 (ws, cs, since, (0 : Int))) ((0 : Int), [])).snd)) ((0 : Int), (0 : Int), [], [])).fst, vev18t_0 Tk.lent Tk.lent (finL (g5_6 (ws, cs, since, (0 : Int))) (n5_6 (ws, cs, since, (0 : Int))) ((0 : Int), [])).snd (finL (g5_14 (cs, since, (finL (g5_6 (ws, cs, since, (0 : Int))) (n5_6 (ws, cs, since, (0 : Int))) ((0 : Int), [])).snd)) (n5_14 (cs, since, (finL (g5_6 (ws, cs, since, (0 : Int))) (n5_6 (ws, cs, since, (0 : Int))) ((0 : Int), [])).snd)) ((0 : Int), (0 : Int), [], [])).snd.snd.snd, vev18t_0 Tk.lent Tk.lent (finL (g5_6 (ws, cs, since, (0 : Int))) (n5_6 (ws, cs, since, (0 : Int))) ((0 : Int), [])).snd (finL (g5_14 (cs, since, (finL (g5_6 (ws, cs, since, (0 : Int))) (n5_6 (ws, cs, since, (0 : Int))) ((0 : Int), [])).snd)) (n5_14 (cs, since, (finL (g5_6 (ws, cs, since, (0 : Int))) (n5_6 (ws, cs, since, (0 : Int))) ((0 : Int), [])).snd)) ((0 : Int), (0 : Int), [], [])).snd.snd.fst, (finL (g5_6 (ws, cs, since, (0 : Int))) (n5_6 (ws, cs, since, (0 : Int))) ((0 : Int), [])).snd)) (0 : Int)) (finL (g5_6 (ws, cs, since, (0 : Int))) (n5_6 (ws, cs, since, (0 : Int))) ((0 : Int), [])).snd) = c0
  generalize ((spI g5_26 n5_26 y5_26 z5_26 d5_26 (((finL (g5_14 (cs, since, (finL (g5_6 (ws, cs, since, (0 : Int))) (n5_6 (ws, cs, since, (0 : Int))) ((0 : Int), [])).snd)) (n5_14 (cs, since, (finL (g5_6 (ws, cs, since, (0 : Int))) (n5_6 (ws, cs, since, (0 : Int))) ((0 : Int), [])).snd)) ((0 : Int), (0 : Int), [], [])).fst, vev18t_0 Tk.lent Tk.lent (finL (g5_6 (ws, cs, since, (0 : Int))) (n5_6 (ws, cs, since, (0 : Int))) ((0 : Int), [])).snd (finL (g5_14 (cs, since, (finL (g5_6 (ws, cs, since, (0 : Int))) (n5_6 (ws, cs, since, (0 : Int))) ((0 : Int), [])).snd)) (n5_14 (cs, since, (finL (g5_6 (ws, cs, since, (0 : Int))) (n5_6 (ws, cs, since, (0 : Int))) ((0 : Int), [])).snd)) ((0 : Int), (0 : Int), [], [])).snd.snd.snd, vev18t_0 Tk.lent Tk.lent (finL (g5_6 (ws, cs, since, (0 : Int))) (n5_6 (ws, cs, since, (0 : Int))) ((0 : Int), [])).snd (finL (g5_14 (cs, since, (finL (g5_6 (ws, cs, since, (0 : Int))) (n5_6 (ws, cs, since, (0 : Int))) ((0 : Int), [])).snd)) (n5_14 (cs, since, (finL (g5_6 (ws, cs, since, (0 : Int))) (n5_6 (ws, cs, since, (0 : Int))) ((0 : Int), [])).snd)) ((0 : Int), (0 : Int), [], [])).snd.snd.fst, (finL (g5_6 (ws, cs, since, (0 : Int))) (n5_6 (ws, cs, since, (0 : Int))) ((0 : Int), [])).snd), (0 : Int))).fst) = c1
  generalize ((↑(vev18t_1 Tk.lent Tk.lent (finL (g5_6 (ws, cs, since, (0 : Int))) (n5_6 (ws, cs, since, (0 : Int))) ((0 : Int), [])).snd (finL (g5_14 (cs, since, (finL (g5_6 (ws, cs, since, (0 : Int))) (n5_6 (ws, cs, since, (0 : Int))) ((0 : Int), [])).snd)) (n5_14 (cs, since, (finL (g5_6 (ws, cs, since, (0 : Int))) (n5_6 (ws, cs, since, (0 : Int))) ((0 : Int), [])).snd)) ((0 : Int), (0 : Int), [], [])).snd.snd.fst).length : Int) != (↑(finL (g5_14 (cs, since, (finL (g5_6 (ws, cs, since, (0 : Int))) (n5_6 (ws, cs, since, (0 : Int))) ((0 : Int), [])).snd)) (n5_14 (cs, since, (finL (g5_6 (ws, cs, since, (0 : Int))) (n5_6 (ws, cs, since, (0 : Int))) ((0 : Int), [])).snd)) ((0 : Int), (0 : Int), [], [])).snd.snd.fst.length : Int)) = c2
  generalize ((↑(vev18t_0 Tk.lent Tk.lent (finL (g5_6 (ws, cs, since, (0 : Int))) (n5_6 (ws, cs, since, (0 : Int))) ((0 : Int), [])).snd (finL (g5_14 (cs, since, (finL (g5_6 (ws, cs, since, (0 : Int))) (n5_6 (ws, cs, since, (0 : Int))) ((0 : Int), [])).snd)) (n5_14 (cs, since, (finL (g5_6 (ws, cs, since, (0 : Int))) (n5_6 (ws, cs, since, (0 : Int))) ((0 : Int), [])).snd)) ((0 : Int), (0 : Int), [], [])).snd.snd.fst).length : Int) != (↑(finL (g5_6 (ws, cs, since, (0 : Int))) (n5_6 (ws, cs, since, (0 : Int))) ((0 : Int), [])).snd.length : Int)) = c3
  generalize ((↑(vev18t_0 Tk.lent Tk.lent (finL (g5_6 (ws, cs, since, (0 : Int))) (n5_6 (ws, cs, since, (0 : Int))) ((0 : Int), [])).snd (finL (g5_14 (cs, since, (finL (g5_6 (ws, cs, since, (0 : Int))) (n5_6 (ws, cs, since, (0 : Int))) ((0 : Int), [])).snd)) (n5_14 (cs, since, (finL (g5_6 (ws, cs, since, (0 : Int))) (n5_6 (ws, cs, since, (0 : Int))) ((0 : Int), [])).snd)) ((0 : Int), (0 : Int), [], [])).snd.snd.snd).length : Int) != (↑(finL (g5_6 (ws, cs, since, (0 : Int))) (n5_6 (ws, cs, since, (0 : Int))) ((0 : Int), [])).snd.length : Int)) = c4
  generalize (vev18t_2 Tk.lent Tk.lent (finL (g5_6 (ws, cs, since, (0 : Int))) (n5_6 (ws, cs, since, (0 : Int))) ((0 : Int), [])).snd (finL (g5_14 (cs, since, (finL (g5_6 (ws, cs, since, (0 : Int))) (n5_6 (ws, cs, since, (0 : Int))) ((0 : Int), [])).snd)) (n5_14 (cs, since, (finL (g5_6 (ws, cs, since, (0 : Int))) (n5_6 (ws, cs, since, (0 : Int))) ((0 : Int), [])).snd)) ((0 : Int), (0 : Int), [], [])).snd.snd.snd) = c5
  generalize (vev18t_2 Tk.lent Tk.lent (finL (g5_6 (ws, cs, since, (0 : Int))) (n5_6 (ws, cs, since, (0 : Int))) ((0 : Int), [])).snd (finL (g5_14 (cs, since, (finL (g5_6 (ws, cs, since, (0 : Int))) (n5_6 (ws, cs, since, (0 : Int))) ((0 : Int), [])).snd)) (n5_14 (cs, since, (finL (g5_6 (ws, cs, since, (0 : Int))) (n5_6 (ws, cs, since, (0 : Int))) ((0 : Int), [])).snd)) ((0 : Int), (0 : Int), [], [])).snd.snd.fst) = c6
  generalize ((spI g5_14 n5_14 y5_14 z5_14 d5_14 ((cs, since, (finL (g5_6 (ws, cs, since, (0 : Int))) (n5_6 (ws, cs, since, (0 : Int))) ((0 : Int), [])).snd), (0 : Int), (0 : Int), [], [])).fst) = c7
  generalize (xc5_6_0 ws cs since (0 : Int) (finL (g5_6 (ws, cs, since, (0 : Int))) (n5_6 (ws, cs, since, (0 : Int))) ((0 : Int), [])).fst (finL (g5_6 (ws, cs, since, (0 : Int))) (n5_6 (ws, cs, since, (0 : Int))) ((0 : Int), [])).snd) = c8
  generalize ((spI g5_6 n5_6 y5_6 z5_6 d5_6 ((ws, cs, since, (0 : Int)), (0 : Int), [])).fst) = c9
  generalize (decide ((↑ws.length : Int) > (8 : Int))) = c10
  generalize (decide ((↑ws.length : Int) < (2 : Int))) = c11
  generalize (decide ((↑cs.length : Int) > (80 : Int))) = c12
  cases c10
  · skip
    cases c11
    · skip
      cases c12
      · skip
        cases c9
        · skip
          rfl
        · skip
          cases c8
          · skip
            cases c7
            · skip
              rfl
            · skip
              cases c5
              · skip
                rfl
              · skip
                cases c6
                · skip
                  rfl
                · skip
                  cases c4
                  · skip
                    cases c3
                    · skip
                      cases c2
                      · skip
                        cases c1
                        · skip
                          rfl
                        · skip
                          cases c0
                          · skip
                            rfl
                          · skip
                            rfl
                      · skip
                        rfl
                    · skip
                      rfl
                  · skip
                    rfl
          · skip
            rfl
      · skip
        rfl
    · skip
      rfl
  · skip
    rfl
-- spec vev5_1 ws cs since ;; (AV.bool (vev5_0 ws cs since), [])
-- law 5: loops loops5 gam k18t
end Go.Proofs.Gv
