import Derived.Test.YteomgnfnigflnaaGt
import Derived.KernelRfl
import Derived.Test.YteomgnfnigflnaaGwF
import Derived.Test.YteomgnfnigflnaaGaRunT
namespace Go.Proofs.Gv
open Go.Proofs
set_option linter.unusedVariables false
noncomputable def go6_5 (t0 : List (List AV)) (t1 : List (List AV)) (t2 : Int) (t9 : Int) (b6 : List (List AV)) (b7 : List (List AV)) : Bool := bif decide (t9 < (↑t0.length : Int)) then bif decide ((0 : Int) ≤ t9) && decide (t9 < (↑t0.length : Int)) then bif vev11_1 (IntKind.i64.wrap ((1 : Int) + IntKind.i64.wrap ((intOf ((t0.getD t9.toNat []).getD (0 : Nat) AV.junk)).tmod (16 : Int)))) != (0 : Int) then false else bif bif decide ((b6.length + (1 : Nat)) * (32 : Nat) ≤ (140737488355328 : Nat)) then decide (b6.length + (1 : Nat) ≤ (9223372036854775807 : Nat)) else false then bif decide ((b7.length + (1 : Nat)) * (32 : Nat) ≤ (140737488355328 : Nat)) then decide (b7.length + (1 : Nat) ≤ (9223372036854775807 : Nat)) else false else false else false else false
noncomputable def nx6_5_3 (t0 : List (List AV)) (t1 : List (List AV)) (t2 : Int) (t9 : Int) (b6 : List (List AV)) (b7 : List (List AV)) : Int := IntKind.i64.wrap (t9 + (1 : Int))
noncomputable def nx6_5_4 (t0 : List (List AV)) (t1 : List (List AV)) (t2 : Int) (t9 : Int) (b6 : List (List AV)) (b7 : List (List AV)) : List (List AV) := b6 ++ [[AV.int IntKind.i64 (vev11_0 (IntKind.i64.wrap ((1 : Int) + IntKind.i64.wrap ((intOf ((t0.getD t9.toNat []).getD (0 : Nat) AV.junk)).tmod (16 : Int))))), AV.int IntKind.i64 (0 : Int), AV.int IntKind.i64 (0 : Int), AV.int IntKind.i64 (0 : Int)]]
noncomputable def nx6_5_5 (t0 : List (List AV)) (t1 : List (List AV)) (t2 : Int) (t9 : Int) (b6 : List (List AV)) (b7 : List (List AV)) : List (List AV) := b7 ++ [[AV.int IntKind.i64 (vev11_0 (IntKind.i64.wrap ((1 : Int) + IntKind.i64.wrap ((intOf ((t0.getD t9.toNat []).getD (0 : Nat) AV.junk)).tmod (16 : Int))))), AV.int IntKind.i64 (IntKind.i64.wrap t2), AV.int IntKind.i64 (0 : Int), AV.int IntKind.i64 (0 : Int)]]
noncomputable def xc6_5_0 (t0 : List (List AV)) (t1 : List (List AV)) (t2 : Int) (t9 : Int) (b6 : List (List AV)) (b7 : List (List AV)) : Bool := bif decide (t9 < (↑t0.length : Int)) then bif decide ((0 : Int) ≤ t9) && decide (t9 < (↑t0.length : Int)) then vev11_1 (IntKind.i64.wrap ((1 : Int) + IntKind.i64.wrap ((intOf ((t0.getD t9.toNat []).getD (0 : Nat) AV.junk)).tmod (16 : Int)))) != (0 : Int) else false else false
noncomputable def xc6_5_1 (t0 : List (List AV)) (t1 : List (List AV)) (t2 : Int) (t9 : Int) (b6 : List (List AV)) (b7 : List (List AV)) : Bool := bif decide (t9 < (↑t0.length : Int)) then false else true
theorem rd6_5 (rest : Lsp) (t0 : List (List AV)) (t1 : List (List AV)) (t2 : Int) (t9 : Int) (b6 : List (List AV)) (b7 : List (List AV)) : roundV (cfg Try.prog tab 100000 (gk k18t 30) rest 6 0 Try.f6.ntmps) (loopAt Try.f6 5) [0, 1, 2, 7, 8, 9] [1, 2, 6, 7] [1, 2, 6, 7, 8] [1, 2, 6, 7] [AV.sl Tk.imm [Kd.int IntKind.u8] t0, AV.sl Tk.imm [Kd.int IntKind.u16] t1, AV.int IntKind.u32 t2, AV.rf (nat_lit 6) [Kd.int IntKind.i64, Kd.int IntKind.i64, Kd.int IntKind.i64, Kd.int IntKind.i64], AV.rf (nat_lit 7) [Kd.int IntKind.i64, Kd.int IntKind.i64, Kd.int IntKind.i64, Kd.int IntKind.i64], AV.int IntKind.i64 t9] [Blk.dead, Blk.dead, Blk.row [Kd.int IntKind.i64, Kd.int IntKind.i64, Kd.int IntKind.i64, Kd.int IntKind.i64] b6, Blk.row [Kd.int IntKind.i64, Kd.int IntKind.i64, Kd.int IntKind.i64, Kd.int IntKind.i64] b7] = bif go6_5 t0 t1 t2 t9 b6 b7 then some (Ex.norm, [AV.sl Tk.imm [Kd.int IntKind.u8] t0, AV.sl Tk.imm [Kd.int IntKind.u16] t1, AV.int IntKind.u32 t2, AV.rf (nat_lit 6) [Kd.int IntKind.i64, Kd.int IntKind.i64, Kd.int IntKind.i64, Kd.int IntKind.i64], AV.rf (nat_lit 7) [Kd.int IntKind.i64, Kd.int IntKind.i64, Kd.int IntKind.i64, Kd.int IntKind.i64], AV.int IntKind.i64 (nx6_5_3 t0 t1 t2 t9 b6 b7)], [Blk.dead, Blk.dead, Blk.row [Kd.int IntKind.i64, Kd.int IntKind.i64, Kd.int IntKind.i64, Kd.int IntKind.i64] (nx6_5_4 t0 t1 t2 t9 b6 b7), Blk.row [Kd.int IntKind.i64, Kd.int IntKind.i64, Kd.int IntKind.i64, Kd.int IntKind.i64] (nx6_5_5 t0 t1 t2 t9 b6 b7)]) else bif xc6_5_0 t0 t1 t2 t9 b6 b7 then some (Ex.ret, [AV.sl Tk.imm [Kd.int IntKind.u16] t1, AV.int IntKind.u32 t2, AV.bool false, AV.rf (nat_lit 6) [Kd.int IntKind.i64, Kd.int IntKind.i64, Kd.int IntKind.i64, Kd.int IntKind.i64], AV.rf (nat_lit 7) [Kd.int IntKind.i64, Kd.int IntKind.i64, Kd.int IntKind.i64, Kd.int IntKind.i64]], [Blk.dead, Blk.dead, Blk.row [Kd.int IntKind.i64, Kd.int IntKind.i64, Kd.int IntKind.i64, Kd.int IntKind.i64] b6, Blk.row [Kd.int IntKind.i64, Kd.int IntKind.i64, Kd.int IntKind.i64, Kd.int IntKind.i64] b7]) else bif xc6_5_1 t0 t1 t2 t9 b6 b7 then some (Ex.exit (nat_lit 0), [AV.sl Tk.imm [Kd.int IntKind.u16] t1, AV.int IntKind.u32 t2, AV.junk, AV.rf (nat_lit 6) [Kd.int IntKind.i64, Kd.int IntKind.i64, Kd.int IntKind.i64, Kd.int IntKind.i64], AV.rf (nat_lit 7) [Kd.int IntKind.i64, Kd.int IntKind.i64, Kd.int IntKind.i64, Kd.int IntKind.i64]], [Blk.dead, Blk.dead, Blk.row [Kd.int IntKind.i64, Kd.int IntKind.i64, Kd.int IntKind.i64, Kd.int IntKind.i64] b6, Blk.row [Kd.int IntKind.i64, Kd.int IntKind.i64, Kd.int IntKind.i64, Kd.int IntKind.i64] b7]) else none := by
  have h : roundV (cfg Try.prog tab 100000 (gk k18t 30) rest 6 0 Try.f6.ntmps) (loopAt Try.f6 5) [0, 1, 2, 7, 8, 9] [1, 2, 6, 7] [1, 2, 6, 7, 8] [1, 2, 6, 7] [AV.sl Tk.imm [Kd.int IntKind.u8] t0, AV.sl Tk.imm [Kd.int IntKind.u16] t1, AV.int IntKind.u32 t2, AV.rf (nat_lit 6) [Kd.int IntKind.i64, Kd.int IntKind.i64, Kd.int IntKind.i64, Kd.int IntKind.i64], AV.rf (nat_lit 7) [Kd.int IntKind.i64, Kd.int IntKind.i64, Kd.int IntKind.i64, Kd.int IntKind.i64], AV.int IntKind.i64 t9] [Blk.dead, Blk.dead, Blk.row [Kd.int IntKind.i64, Kd.int IntKind.i64, Kd.int IntKind.i64, Kd.int IntKind.i64] b6, Blk.row [Kd.int IntKind.i64, Kd.int IntKind.i64, Kd.int IntKind.i64, Kd.int IntKind.i64] b7] = bif decide (t9 < (↑t0.length : Int)) then bif decide ((0 : Int) ≤ t9) && decide (t9 < (↑t0.length : Int)) then bif vev11_1 (IntKind.i64.wrap ((1 : Int) + IntKind.i64.wrap ((intOf ((t0.getD t9.toNat []).getD (0 : Nat) AV.junk)).tmod (16 : Int)))) != (0 : Int) then some (Ex.ret, [AV.sl Tk.imm [Kd.int IntKind.u16] t1, AV.int IntKind.u32 t2, AV.bool false, AV.rf (nat_lit 6) [Kd.int IntKind.i64, Kd.int IntKind.i64, Kd.int IntKind.i64, Kd.int IntKind.i64], AV.rf (nat_lit 7) [Kd.int IntKind.i64, Kd.int IntKind.i64, Kd.int IntKind.i64, Kd.int IntKind.i64]], [Blk.dead, Blk.dead, Blk.row [Kd.int IntKind.i64, Kd.int IntKind.i64, Kd.int IntKind.i64, Kd.int IntKind.i64] b6, Blk.row [Kd.int IntKind.i64, Kd.int IntKind.i64, Kd.int IntKind.i64, Kd.int IntKind.i64] b7]) else bif bif decide ((b6.length + (1 : Nat)) * (32 : Nat) ≤ (140737488355328 : Nat)) then decide (b6.length + (1 : Nat) ≤ (9223372036854775807 : Nat)) else false then bif bif decide ((b7.length + (1 : Nat)) * (32 : Nat) ≤ (140737488355328 : Nat)) then decide (b7.length + (1 : Nat) ≤ (9223372036854775807 : Nat)) else false then some (Ex.norm, [AV.sl Tk.imm [Kd.int IntKind.u8] t0, AV.sl Tk.imm [Kd.int IntKind.u16] t1, AV.int IntKind.u32 t2, AV.rf (nat_lit 6) [Kd.int IntKind.i64, Kd.int IntKind.i64, Kd.int IntKind.i64, Kd.int IntKind.i64], AV.rf (nat_lit 7) [Kd.int IntKind.i64, Kd.int IntKind.i64, Kd.int IntKind.i64, Kd.int IntKind.i64], AV.int IntKind.i64 (IntKind.i64.wrap (t9 + (1 : Int)))], [Blk.dead, Blk.dead, Blk.row [Kd.int IntKind.i64, Kd.int IntKind.i64, Kd.int IntKind.i64, Kd.int IntKind.i64] (b6 ++ [[AV.int IntKind.i64 (vev11_0 (IntKind.i64.wrap ((1 : Int) + IntKind.i64.wrap ((intOf ((t0.getD t9.toNat []).getD (0 : Nat) AV.junk)).tmod (16 : Int))))), AV.int IntKind.i64 (0 : Int), AV.int IntKind.i64 (0 : Int), AV.int IntKind.i64 (0 : Int)]]), Blk.row [Kd.int IntKind.i64, Kd.int IntKind.i64, Kd.int IntKind.i64, Kd.int IntKind.i64] (b7 ++ [[AV.int IntKind.i64 (vev11_0 (IntKind.i64.wrap ((1 : Int) + IntKind.i64.wrap ((intOf ((t0.getD t9.toNat []).getD (0 : Nat) AV.junk)).tmod (16 : Int))))), AV.int IntKind.i64 (IntKind.i64.wrap t2), AV.int IntKind.i64 (0 : Int), AV.int IntKind.i64 (0 : Int)]])]) else none else none else none else some (Ex.exit (nat_lit 0), [AV.sl Tk.imm [Kd.int IntKind.u16] t1, AV.int IntKind.u32 t2, AV.junk, AV.rf (nat_lit 6) [Kd.int IntKind.i64, Kd.int IntKind.i64, Kd.int IntKind.i64, Kd.int IntKind.i64], AV.rf (nat_lit 7) [Kd.int IntKind.i64, Kd.int IntKind.i64, Kd.int IntKind.i64, Kd.int IntKind.i64]], [Blk.dead, Blk.dead, Blk.row [Kd.int IntKind.i64, Kd.int IntKind.i64, Kd.int IntKind.i64, Kd.int IntKind.i64] b6, Blk.row [Kd.int IntKind.i64, Kd.int IntKind.i64, Kd.int IntKind.i64, Kd.int IntKind.i64] b7]) := by kernel_rfl
  rw [h]
  clear h
  unfold go6_5 nx6_5_3 nx6_5_4 nx6_5_5 xc6_5_0 xc6_5_1
  generalize (decide ((b7.length + (1 : Nat)) * (32 : Nat) ≤ (140737488355328 : Nat))) = c0
  generalize (decide ((b6.length + (1 : Nat)) * (32 : Nat) ≤ (140737488355328 : Nat))) = c1
  generalize (vev11_1 (IntKind.i64.wrap ((1 : Int) + IntKind.i64.wrap ((intOf ((t0.getD t9.toNat []).getD (0 : Nat) AV.junk)).tmod (16 : Int)))) != (0 : Int)) = c2
  generalize (decide (b7.length + (1 : Nat) ≤ (9223372036854775807 : Nat))) = c3
  generalize (decide (b6.length + (1 : Nat) ≤ (9223372036854775807 : Nat))) = c4
  generalize (decide ((0 : Int) ≤ t9) && decide (t9 < (↑t0.length : Int))) = c5
  generalize (decide (t9 < (↑t0.length : Int))) = c6
  cases c6
  · skip
    rfl
  · skip
    cases c5
    · skip
      rfl
    · skip
      cases c2
      · skip
        cases c1
        · skip
          rfl
        · skip
          cases c4
          · skip
            rfl
          · skip
            cases c0
            · skip
              rfl
            · skip
              cases c3
              · skip
                rfl
              · skip
                rfl
      · skip
        rfl
abbrev pl6_5 : Type := (List (List AV)) × (List (List AV)) × Int
abbrev sl6_5 : Type := Int × (List (List AV)) × (List (List AV))
noncomputable def vt6_5 (a : pl6_5 × sl6_5) : List AV := [AV.sl Tk.imm [Kd.int IntKind.u8] a.1.1, AV.sl Tk.imm [Kd.int IntKind.u16] a.1.2.1, AV.int IntKind.u32 a.1.2.2, AV.rf (nat_lit 6) [Kd.int IntKind.i64, Kd.int IntKind.i64, Kd.int IntKind.i64, Kd.int IntKind.i64], AV.rf (nat_lit 7) [Kd.int IntKind.i64, Kd.int IntKind.i64, Kd.int IntKind.i64, Kd.int IntKind.i64], AV.int IntKind.i64 a.2.1]
noncomputable def vc6_5 (a : pl6_5 × sl6_5) : List Blk := [Blk.dead, Blk.dead, Blk.row [Kd.int IntKind.i64, Kd.int IntKind.i64, Kd.int IntKind.i64, Kd.int IntKind.i64] a.2.2.1, Blk.row [Kd.int IntKind.i64, Kd.int IntKind.i64, Kd.int IntKind.i64, Kd.int IntKind.i64] a.2.2.2]
noncomputable def de6_5 (vt : List AV) (vc : List Blk) : Option (pl6_5 × sl6_5) :=
  match vt with
  | [qa0, qa1, qa2, qa3, qa4, qa5] => (match vc with
  | [qb0, qb1, qb2, qb3] => (match qa0 with
  | AV.sl Tk.imm [Kd.int IntKind.u8] t0 => (match qa1 with
  | AV.sl Tk.imm [Kd.int IntKind.u16] t1 => (match qa2 with
  | AV.int IntKind.u32 t2 => (match qa3 with
  | AV.rf (6) [Kd.int IntKind.i64, Kd.int IntKind.i64, Kd.int IntKind.i64, Kd.int IntKind.i64] => (match qa4 with
  | AV.rf (7) [Kd.int IntKind.i64, Kd.int IntKind.i64, Kd.int IntKind.i64, Kd.int IntKind.i64] => (match qa5 with
  | AV.int IntKind.i64 t9 => (match qb0 with
  | Blk.dead => (match qb1 with
  | Blk.dead => (match qb2 with
  | Blk.row [Kd.int IntKind.i64, Kd.int IntKind.i64, Kd.int IntKind.i64, Kd.int IntKind.i64] b6 => (match qb3 with
  | Blk.row [Kd.int IntKind.i64, Kd.int IntKind.i64, Kd.int IntKind.i64, Kd.int IntKind.i64] b7 => (some ((t0, t1, t2), (t9, b6, b7)))
  | _ => none)
  | _ => none)
  | _ => none)
  | _ => none)
  | _ => none)
  | _ => none)
  | _ => none)
  | _ => none)
  | _ => none)
  | _ => none)
  | _ => none)
  | _ => none
theorem de6_5_ok (vt : List AV) (vc : List Blk) (a : pl6_5 × sl6_5) (h : de6_5 vt vc = some a) : vt = vt6_5 a ∧ vc = vc6_5 a := by
  unfold de6_5 at h
  split at h
  rotate_left
  · cases h
  split at h
  rotate_left
  · cases h
  split at h
  rotate_left
  · cases h
  split at h
  rotate_left
  · cases h
  split at h
  rotate_left
  · cases h
  split at h
  rotate_left
  · cases h
  split at h
  rotate_left
  · cases h
  split at h
  rotate_left
  · cases h
  split at h
  rotate_left
  · cases h
  split at h
  rotate_left
  · cases h
  split at h
  rotate_left
  · cases h
  split at h
  rotate_left
  · cases h
  injection h with h
  subst h
  exact ⟨rfl, rfl⟩
noncomputable def g6_5 (p : pl6_5) (s : sl6_5) : Bool := go6_5 p.1 p.2.1 p.2.2 s.1 s.2.1 s.2.2
noncomputable def n6_5 (p : pl6_5) (s : sl6_5) : sl6_5 := (nx6_5_3 p.1 p.2.1 p.2.2 s.1 s.2.1 s.2.2, nx6_5_4 p.1 p.2.1 p.2.2 s.1 s.2.1 s.2.2, nx6_5_5 p.1 p.2.1 p.2.2 s.1 s.2.1 s.2.2)
noncomputable def y6_5 (p : pl6_5) (s : sl6_5) : List (Bool × Out) := [(xc6_5_0 p.1 p.2.1 p.2.2 s.1 s.2.1 s.2.2, (Ex.ret, [AV.sl Tk.imm [Kd.int IntKind.u16] p.2.1, AV.int IntKind.u32 p.2.2, AV.bool false, AV.rf (nat_lit 6) [Kd.int IntKind.i64, Kd.int IntKind.i64, Kd.int IntKind.i64, Kd.int IntKind.i64], AV.rf (nat_lit 7) [Kd.int IntKind.i64, Kd.int IntKind.i64, Kd.int IntKind.i64, Kd.int IntKind.i64]], [Blk.dead, Blk.dead, Blk.row [Kd.int IntKind.i64, Kd.int IntKind.i64, Kd.int IntKind.i64, Kd.int IntKind.i64] s.2.1, Blk.row [Kd.int IntKind.i64, Kd.int IntKind.i64, Kd.int IntKind.i64, Kd.int IntKind.i64] s.2.2]))]
noncomputable def z6_5 (p : pl6_5) (s : sl6_5) : Bool := xc6_5_1 p.1 p.2.1 p.2.2 s.1 s.2.1 s.2.2
noncomputable def d6_5 (p : pl6_5) (s : sl6_5) : Out := (Ex.exit (nat_lit 0), [AV.sl Tk.imm [Kd.int IntKind.u16] p.2.1, AV.int IntKind.u32 p.2.2, AV.junk, AV.rf (nat_lit 6) [Kd.int IntKind.i64, Kd.int IntKind.i64, Kd.int IntKind.i64, Kd.int IntKind.i64], AV.rf (nat_lit 7) [Kd.int IntKind.i64, Kd.int IntKind.i64, Kd.int IntKind.i64, Kd.int IntKind.i64]], [Blk.dead, Blk.dead, Blk.row [Kd.int IntKind.i64, Kd.int IntKind.i64, Kd.int IntKind.i64, Kd.int IntKind.i64] s.2.1, Blk.row [Kd.int IntKind.i64, Kd.int IntKind.i64, Kd.int IntKind.i64, Kd.int IntKind.i64] s.2.2])
noncomputable def ls6_5 : St → Option (Bool × List (Bool × Ex × St) × Ex × St) := lspOf [0, 1, 2, 7, 8, 9] [1, 2, 6, 7] [1, 2, 6, 7, 8] [1, 2, 6, 7] Try.f6.ntmps (0 + tab.nid 6) de6_5 (spI g6_5 n6_5 y6_5 z6_5 d6_5)
theorem lo6_5 (rest : Lsp) : LoopOK1 (cfg Try.prog tab 100000 (gk k18t 30) (selL 5 ls6_5 rest) 6 0 Try.f6.ntmps) (loopAt Try.f6 5) := LoopOK1.iter (i := 5) (by kernel_rfl) [0, 1, 2, 7, 8, 9] [1, 2, 6, 7] [1, 2, 6, 7, 8] [1, 2, 6, 7] vt6_5 vc6_5 de6_5 g6_5 n6_5 y6_5 z6_5 d6_5 (fun _ => rfl) de6_5_ok (fun p s => rd6_5 (selL 5 ls6_5 rest) (p.1) (p.2.1) (p.2.2) (s.1) (s.2.1) (s.2.2)) (fun _ _ => rfl)
noncomputable def go6_16 (t1 : List (List AV)) (t2 : Int) (t14 : Int) (t15 : Int) (b5 : List (List AV)) (b6 : List (List AV)) (b7 : List (List AV)) : Bool := bif decide (t15 < (↑t1.length : Int)) then bif decide ((0 : Int) ≤ t15) && decide (t15 < (↑t1.length : Int)) then bif decide ((b5.length + (1 : Nat)) * (8 : Nat) ≤ (140737488355328 : Nat)) then decide (b5.length + (1 : Nat) ≤ (9223372036854775807 : Nat)) else false else false else false
noncomputable def nx6_16_2 (t1 : List (List AV)) (t2 : Int) (t14 : Int) (t15 : Int) (b5 : List (List AV)) (b6 : List (List AV)) (b7 : List (List AV)) : Int := if if true = true then t14 < IntKind.i64.wrap ((1 : Int) + IntKind.i64.wrap (intOf ((t1.getD t15.toNat []).getD (0 : Nat) AV.junk))) else IntKind.i64.wrap ((1 : Int) + IntKind.i64.wrap (intOf ((t1.getD t15.toNat []).getD (0 : Nat) AV.junk))) < t14 then IntKind.i64.wrap ((1 : Int) + IntKind.i64.wrap (intOf ((t1.getD t15.toNat []).getD (0 : Nat) AV.junk))) else t14
noncomputable def nx6_16_3 (t1 : List (List AV)) (t2 : Int) (t14 : Int) (t15 : Int) (b5 : List (List AV)) (b6 : List (List AV)) (b7 : List (List AV)) : Int := IntKind.i64.wrap (t15 + (1 : Int))
noncomputable def nx6_16_4 (t1 : List (List AV)) (t2 : Int) (t14 : Int) (t15 : Int) (b5 : List (List AV)) (b6 : List (List AV)) (b7 : List (List AV)) : List (List AV) := b5 ++ [[AV.int IntKind.i64 (IntKind.i64.wrap ((1 : Int) + IntKind.i64.wrap (intOf ((t1.getD t15.toNat []).getD (0 : Nat) AV.junk))))]]
noncomputable def xc6_16_0 (t1 : List (List AV)) (t2 : Int) (t14 : Int) (t15 : Int) (b5 : List (List AV)) (b6 : List (List AV)) (b7 : List (List AV)) : Bool := bif decide (t15 < (↑t1.length : Int)) then false else true
theorem rd6_16 (rest : Lsp) (t1 : List (List AV)) (t2 : Int) (t14 : Int) (t15 : Int) (b5 : List (List AV)) (b6 : List (List AV)) (b7 : List (List AV)) : roundV (cfg Try.prog tab 100000 (gk k18t 30) (selL 5 ls6_5 rest) 6 0 Try.f6.ntmps) (loopAt Try.f6 16) [1, 2, 7, 8, 13, 14, 15] [0, 1, 2, 5, 6, 7] [2, 7, 8, 13, 14] [0, 1, 2, 5, 6, 7] [AV.sl Tk.imm [Kd.int IntKind.u16] t1, AV.int IntKind.u32 t2, AV.rf (nat_lit 6) [Kd.int IntKind.i64, Kd.int IntKind.i64, Kd.int IntKind.i64, Kd.int IntKind.i64], AV.rf (nat_lit 7) [Kd.int IntKind.i64, Kd.int IntKind.i64, Kd.int IntKind.i64, Kd.int IntKind.i64], AV.rf (nat_lit 5) [Kd.int IntKind.i64], AV.int IntKind.i64 t14, AV.int IntKind.i64 t15] [Blk.dead, Blk.dead, Blk.dead, Blk.row [Kd.int IntKind.i64] b5, Blk.row [Kd.int IntKind.i64, Kd.int IntKind.i64, Kd.int IntKind.i64, Kd.int IntKind.i64] b6, Blk.row [Kd.int IntKind.i64, Kd.int IntKind.i64, Kd.int IntKind.i64, Kd.int IntKind.i64] b7] = bif go6_16 t1 t2 t14 t15 b5 b6 b7 then some (Ex.norm, [AV.sl Tk.imm [Kd.int IntKind.u16] t1, AV.int IntKind.u32 t2, AV.rf (nat_lit 6) [Kd.int IntKind.i64, Kd.int IntKind.i64, Kd.int IntKind.i64, Kd.int IntKind.i64], AV.rf (nat_lit 7) [Kd.int IntKind.i64, Kd.int IntKind.i64, Kd.int IntKind.i64, Kd.int IntKind.i64], AV.rf (nat_lit 5) [Kd.int IntKind.i64], AV.int IntKind.i64 (nx6_16_2 t1 t2 t14 t15 b5 b6 b7), AV.int IntKind.i64 (nx6_16_3 t1 t2 t14 t15 b5 b6 b7)], [Blk.dead, Blk.dead, Blk.dead, Blk.row [Kd.int IntKind.i64] (nx6_16_4 t1 t2 t14 t15 b5 b6 b7), Blk.row [Kd.int IntKind.i64, Kd.int IntKind.i64, Kd.int IntKind.i64, Kd.int IntKind.i64] b6, Blk.row [Kd.int IntKind.i64, Kd.int IntKind.i64, Kd.int IntKind.i64, Kd.int IntKind.i64] b7]) else bif xc6_16_0 t1 t2 t14 t15 b5 b6 b7 then some (Ex.exit (nat_lit 2), [AV.int IntKind.u32 t2, AV.rf (nat_lit 6) [Kd.int IntKind.i64, Kd.int IntKind.i64, Kd.int IntKind.i64, Kd.int IntKind.i64], AV.rf (nat_lit 7) [Kd.int IntKind.i64, Kd.int IntKind.i64, Kd.int IntKind.i64, Kd.int IntKind.i64], AV.rf (nat_lit 5) [Kd.int IntKind.i64], AV.int IntKind.i64 t14], [Blk.dead, Blk.dead, Blk.dead, Blk.row [Kd.int IntKind.i64] b5, Blk.row [Kd.int IntKind.i64, Kd.int IntKind.i64, Kd.int IntKind.i64, Kd.int IntKind.i64] b6, Blk.row [Kd.int IntKind.i64, Kd.int IntKind.i64, Kd.int IntKind.i64, Kd.int IntKind.i64] b7]) else none := by
  have h : roundV (cfg Try.prog tab 100000 (gk k18t 30) (selL 5 ls6_5 rest) 6 0 Try.f6.ntmps) (loopAt Try.f6 16) [1, 2, 7, 8, 13, 14, 15] [0, 1, 2, 5, 6, 7] [2, 7, 8, 13, 14] [0, 1, 2, 5, 6, 7] [AV.sl Tk.imm [Kd.int IntKind.u16] t1, AV.int IntKind.u32 t2, AV.rf (nat_lit 6) [Kd.int IntKind.i64, Kd.int IntKind.i64, Kd.int IntKind.i64, Kd.int IntKind.i64], AV.rf (nat_lit 7) [Kd.int IntKind.i64, Kd.int IntKind.i64, Kd.int IntKind.i64, Kd.int IntKind.i64], AV.rf (nat_lit 5) [Kd.int IntKind.i64], AV.int IntKind.i64 t14, AV.int IntKind.i64 t15] [Blk.dead, Blk.dead, Blk.dead, Blk.row [Kd.int IntKind.i64] b5, Blk.row [Kd.int IntKind.i64, Kd.int IntKind.i64, Kd.int IntKind.i64, Kd.int IntKind.i64] b6, Blk.row [Kd.int IntKind.i64, Kd.int IntKind.i64, Kd.int IntKind.i64, Kd.int IntKind.i64] b7] = bif decide (t15 < (↑t1.length : Int)) then bif decide ((0 : Int) ≤ t15) && decide (t15 < (↑t1.length : Int)) then bif bif decide ((b5.length + (1 : Nat)) * (8 : Nat) ≤ (140737488355328 : Nat)) then decide (b5.length + (1 : Nat) ≤ (9223372036854775807 : Nat)) else false then bif decide ((0 : Int) ≤ t15) && decide (t15 < (↑t1.length : Int)) then some (Ex.norm, [AV.sl Tk.imm [Kd.int IntKind.u16] t1, AV.int IntKind.u32 t2, AV.rf (nat_lit 6) [Kd.int IntKind.i64, Kd.int IntKind.i64, Kd.int IntKind.i64, Kd.int IntKind.i64], AV.rf (nat_lit 7) [Kd.int IntKind.i64, Kd.int IntKind.i64, Kd.int IntKind.i64, Kd.int IntKind.i64], AV.rf (nat_lit 5) [Kd.int IntKind.i64], AV.int IntKind.i64 (if if true = true then t14 < IntKind.i64.wrap ((1 : Int) + IntKind.i64.wrap (intOf ((t1.getD t15.toNat []).getD (0 : Nat) AV.junk))) else IntKind.i64.wrap ((1 : Int) + IntKind.i64.wrap (intOf ((t1.getD t15.toNat []).getD (0 : Nat) AV.junk))) < t14 then IntKind.i64.wrap ((1 : Int) + IntKind.i64.wrap (intOf ((t1.getD t15.toNat []).getD (0 : Nat) AV.junk))) else t14), AV.int IntKind.i64 (IntKind.i64.wrap (t15 + (1 : Int)))], [Blk.dead, Blk.dead, Blk.dead, Blk.row [Kd.int IntKind.i64] (b5 ++ [[AV.int IntKind.i64 (IntKind.i64.wrap ((1 : Int) + IntKind.i64.wrap (intOf ((t1.getD t15.toNat []).getD (0 : Nat) AV.junk))))]]), Blk.row [Kd.int IntKind.i64, Kd.int IntKind.i64, Kd.int IntKind.i64, Kd.int IntKind.i64] b6, Blk.row [Kd.int IntKind.i64, Kd.int IntKind.i64, Kd.int IntKind.i64, Kd.int IntKind.i64] b7]) else none else none else none else some (Ex.exit (nat_lit 2), [AV.int IntKind.u32 t2, AV.rf (nat_lit 6) [Kd.int IntKind.i64, Kd.int IntKind.i64, Kd.int IntKind.i64, Kd.int IntKind.i64], AV.rf (nat_lit 7) [Kd.int IntKind.i64, Kd.int IntKind.i64, Kd.int IntKind.i64, Kd.int IntKind.i64], AV.rf (nat_lit 5) [Kd.int IntKind.i64], AV.int IntKind.i64 t14], [Blk.dead, Blk.dead, Blk.dead, Blk.row [Kd.int IntKind.i64] b5, Blk.row [Kd.int IntKind.i64, Kd.int IntKind.i64, Kd.int IntKind.i64, Kd.int IntKind.i64] b6, Blk.row [Kd.int IntKind.i64, Kd.int IntKind.i64, Kd.int IntKind.i64, Kd.int IntKind.i64] b7]) := by kernel_rfl
  rw [h]
  clear h
  unfold go6_16 nx6_16_2 nx6_16_3 nx6_16_4 xc6_16_0
  generalize (decide ((b5.length + (1 : Nat)) * (8 : Nat) ≤ (140737488355328 : Nat))) = c0
  generalize (decide (b5.length + (1 : Nat) ≤ (9223372036854775807 : Nat))) = c1
  generalize (decide ((0 : Int) ≤ t15) && decide (t15 < (↑t1.length : Int))) = c2
  generalize (decide (t15 < (↑t1.length : Int))) = c3
  cases c3
  · skip
    rfl
  · skip
    cases c2
    · skip
      rfl
    · skip
      cases c0
      · skip
        rfl
      · skip
        cases c1
        · skip
          rfl
        · skip
          rfl
abbrev pl6_16 : Type := (List (List AV)) × Int × (List (List AV)) × (List (List AV))
abbrev sl6_16 : Type := Int × Int × (List (List AV))
noncomputable def vt6_16 (a : pl6_16 × sl6_16) : List AV := [AV.sl Tk.imm [Kd.int IntKind.u16] a.1.1, AV.int IntKind.u32 a.1.2.1, AV.rf (nat_lit 6) [Kd.int IntKind.i64, Kd.int IntKind.i64, Kd.int IntKind.i64, Kd.int IntKind.i64], AV.rf (nat_lit 7) [Kd.int IntKind.i64, Kd.int IntKind.i64, Kd.int IntKind.i64, Kd.int IntKind.i64], AV.rf (nat_lit 5) [Kd.int IntKind.i64], AV.int IntKind.i64 a.2.1, AV.int IntKind.i64 a.2.2.1]
noncomputable def vc6_16 (a : pl6_16 × sl6_16) : List Blk := [Blk.dead, Blk.dead, Blk.dead, Blk.row [Kd.int IntKind.i64] a.2.2.2, Blk.row [Kd.int IntKind.i64, Kd.int IntKind.i64, Kd.int IntKind.i64, Kd.int IntKind.i64] a.1.2.2.1, Blk.row [Kd.int IntKind.i64, Kd.int IntKind.i64, Kd.int IntKind.i64, Kd.int IntKind.i64] a.1.2.2.2]
noncomputable def de6_16 (vt : List AV) (vc : List Blk) : Option (pl6_16 × sl6_16) :=
  match vt with
  | [qa0, qa1, qa2, qa3, qa4, qa5, qa6] => (match vc with
  | [qb0, qb1, qb2, qb3, qb4, qb5] => (match qa0 with
  | AV.sl Tk.imm [Kd.int IntKind.u16] t1 => (match qa1 with
  | AV.int IntKind.u32 t2 => (match qa2 with
  | AV.rf (6) [Kd.int IntKind.i64, Kd.int IntKind.i64, Kd.int IntKind.i64, Kd.int IntKind.i64] => (match qa3 with
  | AV.rf (7) [Kd.int IntKind.i64, Kd.int IntKind.i64, Kd.int IntKind.i64, Kd.int IntKind.i64] => (match qa4 with
  | AV.rf (5) [Kd.int IntKind.i64] => (match qa5 with
  | AV.int IntKind.i64 t14 => (match qa6 with
  | AV.int IntKind.i64 t15 => (match qb0 with
  | Blk.dead => (match qb1 with
  | Blk.dead => (match qb2 with
  | Blk.dead => (match qb3 with
  | Blk.row [Kd.int IntKind.i64] b5 => (match qb4 with
  | Blk.row [Kd.int IntKind.i64, Kd.int IntKind.i64, Kd.int IntKind.i64, Kd.int IntKind.i64] b6 => (match qb5 with
  | Blk.row [Kd.int IntKind.i64, Kd.int IntKind.i64, Kd.int IntKind.i64, Kd.int IntKind.i64] b7 => (some ((t1, t2, b6, b7), (t14, t15, b5)))
  | _ => none)
  | _ => none)
  | _ => none)
  | _ => none)
  | _ => none)
  | _ => none)
  | _ => none)
  | _ => none)
  | _ => none)
  | _ => none)
  | _ => none)
  | _ => none)
  | _ => none)
  | _ => none)
  | _ => none
theorem de6_16_ok (vt : List AV) (vc : List Blk) (a : pl6_16 × sl6_16) (h : de6_16 vt vc = some a) : vt = vt6_16 a ∧ vc = vc6_16 a := by
  unfold de6_16 at h
  split at h
  rotate_left
  · cases h
  split at h
  rotate_left
  · cases h
  split at h
  rotate_left
  · cases h
  split at h
  rotate_left
  · cases h
  split at h
  rotate_left
  · cases h
  split at h
  rotate_left
  · cases h
  split at h
  rotate_left
  · cases h
  split at h
  rotate_left
  · cases h
  split at h
  rotate_left
  · cases h
  split at h
  rotate_left
  · cases h
  split at h
  rotate_left
  · cases h
  split at h
  rotate_left
  · cases h
  split at h
  rotate_left
  · cases h
  split at h
  rotate_left
  · cases h
  split at h
  rotate_left
  · cases h
  injection h with h
  subst h
  exact ⟨rfl, rfl⟩
noncomputable def g6_16 (p : pl6_16) (s : sl6_16) : Bool := go6_16 p.1 p.2.1 s.1 s.2.1 s.2.2 p.2.2.1 p.2.2.2
noncomputable def n6_16 (p : pl6_16) (s : sl6_16) : sl6_16 := (nx6_16_2 p.1 p.2.1 s.1 s.2.1 s.2.2 p.2.2.1 p.2.2.2, nx6_16_3 p.1 p.2.1 s.1 s.2.1 s.2.2 p.2.2.1 p.2.2.2, nx6_16_4 p.1 p.2.1 s.1 s.2.1 s.2.2 p.2.2.1 p.2.2.2)
noncomputable def y6_16 (p : pl6_16) (s : sl6_16) : List (Bool × Out) := []
noncomputable def z6_16 (p : pl6_16) (s : sl6_16) : Bool := xc6_16_0 p.1 p.2.1 s.1 s.2.1 s.2.2 p.2.2.1 p.2.2.2
noncomputable def d6_16 (p : pl6_16) (s : sl6_16) : Out := (Ex.exit (nat_lit 2), [AV.int IntKind.u32 p.2.1, AV.rf (nat_lit 6) [Kd.int IntKind.i64, Kd.int IntKind.i64, Kd.int IntKind.i64, Kd.int IntKind.i64], AV.rf (nat_lit 7) [Kd.int IntKind.i64, Kd.int IntKind.i64, Kd.int IntKind.i64, Kd.int IntKind.i64], AV.rf (nat_lit 5) [Kd.int IntKind.i64], AV.int IntKind.i64 s.1], [Blk.dead, Blk.dead, Blk.dead, Blk.row [Kd.int IntKind.i64] s.2.2, Blk.row [Kd.int IntKind.i64, Kd.int IntKind.i64, Kd.int IntKind.i64, Kd.int IntKind.i64] p.2.2.1, Blk.row [Kd.int IntKind.i64, Kd.int IntKind.i64, Kd.int IntKind.i64, Kd.int IntKind.i64] p.2.2.2])
noncomputable def ls6_16 : St → Option (Bool × List (Bool × Ex × St) × Ex × St) := lspOf [1, 2, 7, 8, 13, 14, 15] [0, 1, 2, 5, 6, 7] [2, 7, 8, 13, 14] [0, 1, 2, 5, 6, 7] Try.f6.ntmps (0 + tab.nid 6) de6_16 (spI g6_16 n6_16 y6_16 z6_16 d6_16)
theorem lo6_16 (rest : Lsp) : LoopOK1 (cfg Try.prog tab 100000 (gk k18t 30) (selL 5 ls6_5 (selL 16 ls6_16 rest)) 6 0 Try.f6.ntmps) (loopAt Try.f6 16) := LoopOK1.iter (i := 16) (by kernel_rfl) [1, 2, 7, 8, 13, 14, 15] [0, 1, 2, 5, 6, 7] [2, 7, 8, 13, 14] [0, 1, 2, 5, 6, 7] vt6_16 vc6_16 de6_16 g6_16 n6_16 y6_16 z6_16 d6_16 (fun _ => rfl) de6_16_ok (fun p s => rd6_16 (selL 16 ls6_16 rest) (p.1) (p.2.1) (s.1) (s.2.1) (s.2.2) (p.2.2.1) (p.2.2.2)) (fun _ _ => rfl)
noncomputable def go6_27 (t2 : Int) (t14 : Int) (t16 : List (List AV)) (t17 : List (List AV)) (t18 : List (List AV)) (t19 : List (List AV)) (t20 : List (List AV)) (t21 : List (List AV)) (t22 : Int) (t23 : Int) (b5 : List (List AV)) : Bool := bif decide (t23 < (↑b5.length : Int)) then bif decide ((0 : Int) ≤ t23) && decide (t23 < (↑b5.length : Int)) then bif bif decide ((0 : Int) ≤ t23) && decide (t23 < (↑t17.length : Int)) then bif decide ((0 : Int) ≤ t23) && decide (t23 < (↑t19.length : Int)) then bif intOf ((t17.getD t23.toNat []).getD (0 : Nat) AV.junk) != intOf ((t19.getD t23.toNat []).getD (0 : Nat) AV.junk) then true else decide ((0 : Int) ≤ t23) && decide (t23 < (↑t21.length : Int)) else false else false then bif bif decide ((0 : Int) ≤ t23) && decide (t23 < (↑t17.length : Int)) then bif decide ((0 : Int) ≤ t23) && decide (t23 < (↑t19.length : Int)) then bif intOf ((t17.getD t23.toNat []).getD (0 : Nat) AV.junk) != intOf ((t19.getD t23.toNat []).getD (0 : Nat) AV.junk) then true else bif decide ((0 : Int) ≤ t23) && decide (t23 < (↑t21.length : Int)) then intOf ((t21.getD t23.toNat []).getD (0 : Nat) AV.junk) != (0 : Int) else false else false else false then false else true else false else false else false
noncomputable def nx6_27_8 (t2 : Int) (t14 : Int) (t16 : List (List AV)) (t17 : List (List AV)) (t18 : List (List AV)) (t19 : List (List AV)) (t20 : List (List AV)) (t21 : List (List AV)) (t22 : Int) (t23 : Int) (b5 : List (List AV)) : Int := IntKind.i64.wrap (t22 + intOf ((b5.getD t23.toNat []).getD (0 : Nat) AV.junk))
noncomputable def nx6_27_9 (t2 : Int) (t14 : Int) (t16 : List (List AV)) (t17 : List (List AV)) (t18 : List (List AV)) (t19 : List (List AV)) (t20 : List (List AV)) (t21 : List (List AV)) (t22 : Int) (t23 : Int) (b5 : List (List AV)) : Int := IntKind.i64.wrap (t23 + (1 : Int))
noncomputable def xc6_27_0 (t2 : Int) (t14 : Int) (t16 : List (List AV)) (t17 : List (List AV)) (t18 : List (List AV)) (t19 : List (List AV)) (t20 : List (List AV)) (t21 : List (List AV)) (t22 : Int) (t23 : Int) (b5 : List (List AV)) : Bool := bif decide (t23 < (↑b5.length : Int)) then bif decide ((0 : Int) ≤ t23) && decide (t23 < (↑b5.length : Int)) then bif bif decide ((0 : Int) ≤ t23) && decide (t23 < (↑t17.length : Int)) then bif decide ((0 : Int) ≤ t23) && decide (t23 < (↑t19.length : Int)) then bif intOf ((t17.getD t23.toNat []).getD (0 : Nat) AV.junk) != intOf ((t19.getD t23.toNat []).getD (0 : Nat) AV.junk) then true else decide ((0 : Int) ≤ t23) && decide (t23 < (↑t21.length : Int)) else false else false then bif decide ((0 : Int) ≤ t23) && decide (t23 < (↑t17.length : Int)) then bif decide ((0 : Int) ≤ t23) && decide (t23 < (↑t19.length : Int)) then bif intOf ((t17.getD t23.toNat []).getD (0 : Nat) AV.junk) != intOf ((t19.getD t23.toNat []).getD (0 : Nat) AV.junk) then true else bif decide ((0 : Int) ≤ t23) && decide (t23 < (↑t21.length : Int)) then intOf ((t21.getD t23.toNat []).getD (0 : Nat) AV.junk) != (0 : Int) else false else false else false else false else false else false
noncomputable def xc6_27_1 (t2 : Int) (t14 : Int) (t16 : List (List AV)) (t17 : List (List AV)) (t18 : List (List AV)) (t19 : List (List AV)) (t20 : List (List AV)) (t21 : List (List AV)) (t22 : Int) (t23 : Int) (b5 : List (List AV)) : Bool := bif decide (t23 < (↑b5.length : Int)) then false else true
theorem rd6_27 (rest : Lsp) (t2 : Int) (t14 : Int) (t16 : List (List AV)) (t17 : List (List AV)) (t18 : List (List AV)) (t19 : List (List AV)) (t20 : List (List AV)) (t21 : List (List AV)) (t22 : Int) (t23 : Int) (b5 : List (List AV)) : roundV (cfg Try.prog tab 100000 (gk k18t 30) (selL 5 ls6_5 (selL 16 ls6_16 rest)) 6 0 Try.f6.ntmps) (loopAt Try.f6 27) [2, 13, 14, 16, 17, 18, 19, 20, 21, 22, 23] [0, 1, 2, 5] [2, 6, 14, 16, 18, 20, 22] [0, 1, 2, 5, 6, 7] [AV.int IntKind.u32 t2, AV.rf (nat_lit 5) [Kd.int IntKind.i64], AV.int IntKind.i64 t14, AV.sl Tk.imm [Kd.int IntKind.i64, Kd.int IntKind.i64, Kd.int IntKind.i64, Kd.int IntKind.i64] t16, AV.sl Tk.imm [Kd.int IntKind.i64] t17, AV.sl Tk.imm [Kd.int IntKind.i64, Kd.int IntKind.i64, Kd.int IntKind.i64, Kd.int IntKind.i64] t18, AV.sl Tk.imm [Kd.int IntKind.i64] t19, AV.sl Tk.imm [Kd.int IntKind.i64, Kd.int IntKind.i64, Kd.int IntKind.i64, Kd.int IntKind.i64] t20, AV.sl Tk.imm [Kd.int IntKind.i64] t21, AV.int IntKind.i64 t22, AV.int IntKind.i64 t23] [Blk.dead, Blk.dead, Blk.dead, Blk.row [Kd.int IntKind.i64] b5] = bif go6_27 t2 t14 t16 t17 t18 t19 t20 t21 t22 t23 b5 then some (Ex.norm, [AV.int IntKind.u32 t2, AV.rf (nat_lit 5) [Kd.int IntKind.i64], AV.int IntKind.i64 t14, AV.sl Tk.imm [Kd.int IntKind.i64, Kd.int IntKind.i64, Kd.int IntKind.i64, Kd.int IntKind.i64] t16, AV.sl Tk.imm [Kd.int IntKind.i64] t17, AV.sl Tk.imm [Kd.int IntKind.i64, Kd.int IntKind.i64, Kd.int IntKind.i64, Kd.int IntKind.i64] t18, AV.sl Tk.imm [Kd.int IntKind.i64] t19, AV.sl Tk.imm [Kd.int IntKind.i64, Kd.int IntKind.i64, Kd.int IntKind.i64, Kd.int IntKind.i64] t20, AV.sl Tk.imm [Kd.int IntKind.i64] t21, AV.int IntKind.i64 (nx6_27_8 t2 t14 t16 t17 t18 t19 t20 t21 t22 t23 b5), AV.int IntKind.i64 (nx6_27_9 t2 t14 t16 t17 t18 t19 t20 t21 t22 t23 b5)], [Blk.dead, Blk.dead, Blk.dead, Blk.row [Kd.int IntKind.i64] b5]) else bif xc6_27_0 t2 t14 t16 t17 t18 t19 t20 t21 t22 t23 b5 then some (Ex.ret, [AV.int IntKind.u32 t2, AV.bool false, AV.int IntKind.i64 t14, AV.sl Tk.imm [Kd.int IntKind.i64, Kd.int IntKind.i64, Kd.int IntKind.i64, Kd.int IntKind.i64] t16, AV.sl Tk.imm [Kd.int IntKind.i64, Kd.int IntKind.i64, Kd.int IntKind.i64, Kd.int IntKind.i64] t18, AV.sl Tk.imm [Kd.int IntKind.i64, Kd.int IntKind.i64, Kd.int IntKind.i64, Kd.int IntKind.i64] t20, AV.int IntKind.i64 (nx6_27_8 t2 t14 t16 t17 t18 t19 t20 t21 t22 t23 b5)], [Blk.dead, Blk.dead, Blk.dead, Blk.row [Kd.int IntKind.i64] b5, Blk.dead, Blk.dead]) else bif xc6_27_1 t2 t14 t16 t17 t18 t19 t20 t21 t22 t23 b5 then some (Ex.exit (nat_lit 4), [AV.int IntKind.u32 t2, AV.junk, AV.int IntKind.i64 t14, AV.sl Tk.imm [Kd.int IntKind.i64, Kd.int IntKind.i64, Kd.int IntKind.i64, Kd.int IntKind.i64] t16, AV.sl Tk.imm [Kd.int IntKind.i64, Kd.int IntKind.i64, Kd.int IntKind.i64, Kd.int IntKind.i64] t18, AV.sl Tk.imm [Kd.int IntKind.i64, Kd.int IntKind.i64, Kd.int IntKind.i64, Kd.int IntKind.i64] t20, AV.int IntKind.i64 t22], [Blk.dead, Blk.dead, Blk.dead, Blk.row [Kd.int IntKind.i64] b5, Blk.dead, Blk.dead]) else none := by
  have h : roundV (cfg Try.prog tab 100000 (gk k18t 30) (selL 5 ls6_5 (selL 16 ls6_16 rest)) 6 0 Try.f6.ntmps) (loopAt Try.f6 27) [2, 13, 14, 16, 17, 18, 19, 20, 21, 22, 23] [0, 1, 2, 5] [2, 6, 14, 16, 18, 20, 22] [0, 1, 2, 5, 6, 7] [AV.int IntKind.u32 t2, AV.rf (nat_lit 5) [Kd.int IntKind.i64], AV.int IntKind.i64 t14, AV.sl Tk.imm [Kd.int IntKind.i64, Kd.int IntKind.i64, Kd.int IntKind.i64, Kd.int IntKind.i64] t16, AV.sl Tk.imm [Kd.int IntKind.i64] t17, AV.sl Tk.imm [Kd.int IntKind.i64, Kd.int IntKind.i64, Kd.int IntKind.i64, Kd.int IntKind.i64] t18, AV.sl Tk.imm [Kd.int IntKind.i64] t19, AV.sl Tk.imm [Kd.int IntKind.i64, Kd.int IntKind.i64, Kd.int IntKind.i64, Kd.int IntKind.i64] t20, AV.sl Tk.imm [Kd.int IntKind.i64] t21, AV.int IntKind.i64 t22, AV.int IntKind.i64 t23] [Blk.dead, Blk.dead, Blk.dead, Blk.row [Kd.int IntKind.i64] b5] = bif decide (t23 < (↑b5.length : Int)) then bif decide ((0 : Int) ≤ t23) && decide (t23 < (↑b5.length : Int)) then bif bif decide ((0 : Int) ≤ t23) && decide (t23 < (↑t17.length : Int)) then bif decide ((0 : Int) ≤ t23) && decide (t23 < (↑t19.length : Int)) then bif intOf ((t17.getD t23.toNat []).getD (0 : Nat) AV.junk) != intOf ((t19.getD t23.toNat []).getD (0 : Nat) AV.junk) then true else bif decide ((0 : Int) ≤ t23) && decide (t23 < (↑t21.length : Int)) then true else false else false else false then bif bif decide ((0 : Int) ≤ t23) && decide (t23 < (↑t17.length : Int)) then bif decide ((0 : Int) ≤ t23) && decide (t23 < (↑t19.length : Int)) then bif intOf ((t17.getD t23.toNat []).getD (0 : Nat) AV.junk) != intOf ((t19.getD t23.toNat []).getD (0 : Nat) AV.junk) then true else bif decide ((0 : Int) ≤ t23) && decide (t23 < (↑t21.length : Int)) then bif false then true else intOf ((t21.getD t23.toNat []).getD (0 : Nat) AV.junk) != (0 : Int) else false else false else false then some (Ex.ret, [AV.int IntKind.u32 t2, AV.bool false, AV.int IntKind.i64 t14, AV.sl Tk.imm [Kd.int IntKind.i64, Kd.int IntKind.i64, Kd.int IntKind.i64, Kd.int IntKind.i64] t16, AV.sl Tk.imm [Kd.int IntKind.i64, Kd.int IntKind.i64, Kd.int IntKind.i64, Kd.int IntKind.i64] t18, AV.sl Tk.imm [Kd.int IntKind.i64, Kd.int IntKind.i64, Kd.int IntKind.i64, Kd.int IntKind.i64] t20, AV.int IntKind.i64 (IntKind.i64.wrap (t22 + intOf ((b5.getD t23.toNat []).getD (0 : Nat) AV.junk)))], [Blk.dead, Blk.dead, Blk.dead, Blk.row [Kd.int IntKind.i64] b5, Blk.dead, Blk.dead]) else some (Ex.norm, [AV.int IntKind.u32 t2, AV.rf (nat_lit 5) [Kd.int IntKind.i64], AV.int IntKind.i64 t14, AV.sl Tk.imm [Kd.int IntKind.i64, Kd.int IntKind.i64, Kd.int IntKind.i64, Kd.int IntKind.i64] t16, AV.sl Tk.imm [Kd.int IntKind.i64] t17, AV.sl Tk.imm [Kd.int IntKind.i64, Kd.int IntKind.i64, Kd.int IntKind.i64, Kd.int IntKind.i64] t18, AV.sl Tk.imm [Kd.int IntKind.i64] t19, AV.sl Tk.imm [Kd.int IntKind.i64, Kd.int IntKind.i64, Kd.int IntKind.i64, Kd.int IntKind.i64] t20, AV.sl Tk.imm [Kd.int IntKind.i64] t21, AV.int IntKind.i64 (IntKind.i64.wrap (t22 + intOf ((b5.getD t23.toNat []).getD (0 : Nat) AV.junk))), AV.int IntKind.i64 (IntKind.i64.wrap (t23 + (1 : Int)))], [Blk.dead, Blk.dead, Blk.dead, Blk.row [Kd.int IntKind.i64] b5]) else none else none else some (Ex.exit (nat_lit 4), [AV.int IntKind.u32 t2, AV.junk, AV.int IntKind.i64 t14, AV.sl Tk.imm [Kd.int IntKind.i64, Kd.int IntKind.i64, Kd.int IntKind.i64, Kd.int IntKind.i64] t16, AV.sl Tk.imm [Kd.int IntKind.i64, Kd.int IntKind.i64, Kd.int IntKind.i64, Kd.int IntKind.i64] t18, AV.sl Tk.imm [Kd.int IntKind.i64, Kd.int IntKind.i64, Kd.int IntKind.i64, Kd.int IntKind.i64] t20, AV.int IntKind.i64 t22], [Blk.dead, Blk.dead, Blk.dead, Blk.row [Kd.int IntKind.i64] b5, Blk.dead, Blk.dead]) := by kernel_rfl
  rw [h]
  clear h
  unfold go6_27 nx6_27_8 nx6_27_9 xc6_27_0 xc6_27_1
  generalize (decide ((0 : Int) ≤ t23) && decide (t23 < (↑t17.length : Int))) = c0
  generalize (decide ((0 : Int) ≤ t23) && decide (t23 < (↑t19.length : Int))) = c1
  generalize (decide ((0 : Int) ≤ t23) && decide (t23 < (↑b5.length : Int))) = c2
  generalize (intOf ((t17.getD t23.toNat []).getD (0 : Nat) AV.junk) != intOf ((t19.getD t23.toNat []).getD (0 : Nat) AV.junk)) = c3
  generalize (decide ((0 : Int) ≤ t23) && decide (t23 < (↑t21.length : Int))) = c4
  generalize (intOf ((t21.getD t23.toNat []).getD (0 : Nat) AV.junk) != (0 : Int)) = c5
  generalize (decide (t23 < (↑b5.length : Int))) = c6
  cases c6
  · skip
    rfl
  · skip
    cases c2
    · skip
      rfl
    · skip
      cases c0
      · skip
        rfl
      · skip
        cases c1
        · skip
          rfl
        · skip
          cases c3
          · skip
            cases c4
            · skip
              rfl
            · skip
              cases c5
              · skip
                rfl
              · skip
                rfl
          · skip
            rfl
abbrev pl6_27 : Type := Int × Int × (List (List AV)) × (List (List AV)) × (List (List AV)) × (List (List AV)) × (List (List AV)) × (List (List AV)) × (List (List AV))
abbrev sl6_27 : Type := Int × Int
noncomputable def vt6_27 (a : pl6_27 × sl6_27) : List AV := [AV.int IntKind.u32 a.1.1, AV.rf (nat_lit 5) [Kd.int IntKind.i64], AV.int IntKind.i64 a.1.2.1, AV.sl Tk.imm [Kd.int IntKind.i64, Kd.int IntKind.i64, Kd.int IntKind.i64, Kd.int IntKind.i64] a.1.2.2.1, AV.sl Tk.imm [Kd.int IntKind.i64] a.1.2.2.2.1, AV.sl Tk.imm [Kd.int IntKind.i64, Kd.int IntKind.i64, Kd.int IntKind.i64, Kd.int IntKind.i64] a.1.2.2.2.2.1, AV.sl Tk.imm [Kd.int IntKind.i64] a.1.2.2.2.2.2.1, AV.sl Tk.imm [Kd.int IntKind.i64, Kd.int IntKind.i64, Kd.int IntKind.i64, Kd.int IntKind.i64] a.1.2.2.2.2.2.2.1, AV.sl Tk.imm [Kd.int IntKind.i64] a.1.2.2.2.2.2.2.2.1, AV.int IntKind.i64 a.2.1, AV.int IntKind.i64 a.2.2]
noncomputable def vc6_27 (a : pl6_27 × sl6_27) : List Blk := [Blk.dead, Blk.dead, Blk.dead, Blk.row [Kd.int IntKind.i64] a.1.2.2.2.2.2.2.2.2]
noncomputable def de6_27 (vt : List AV) (vc : List Blk) : Option (pl6_27 × sl6_27) :=
  match vt with
  | [qa0, qa1, qa2, qa3, qa4, qa5, qa6, qa7, qa8, qa9, qa10] => (match vc with
  | [qb0, qb1, qb2, qb3] => (match qa0 with
  | AV.int IntKind.u32 t2 => (match qa1 with
  | AV.rf (5) [Kd.int IntKind.i64] => (match qa2 with
  | AV.int IntKind.i64 t14 => (match qa3 with
  | AV.sl Tk.imm [Kd.int IntKind.i64, Kd.int IntKind.i64, Kd.int IntKind.i64, Kd.int IntKind.i64] t16 => (match qa4 with
  | AV.sl Tk.imm [Kd.int IntKind.i64] t17 => (match qa5 with
  | AV.sl Tk.imm [Kd.int IntKind.i64, Kd.int IntKind.i64, Kd.int IntKind.i64, Kd.int IntKind.i64] t18 => (match qa6 with
  | AV.sl Tk.imm [Kd.int IntKind.i64] t19 => (match qa7 with
  | AV.sl Tk.imm [Kd.int IntKind.i64, Kd.int IntKind.i64, Kd.int IntKind.i64, Kd.int IntKind.i64] t20 => (match qa8 with
  | AV.sl Tk.imm [Kd.int IntKind.i64] t21 => (match qa9 with
  | AV.int IntKind.i64 t22 => (match qa10 with
  | AV.int IntKind.i64 t23 => (match qb0 with
  | Blk.dead => (match qb1 with
  | Blk.dead => (match qb2 with
  | Blk.dead => (match qb3 with
  | Blk.row [Kd.int IntKind.i64] b5 => (some ((t2, t14, t16, t17, t18, t19, t20, t21, b5), (t22, t23)))
  | _ => none)
  | _ => none)
  | _ => none)
  | _ => none)
  | _ => none)
  | _ => none)
  | _ => none)
  | _ => none)
  | _ => none)
  | _ => none)
  | _ => none)
  | _ => none)
  | _ => none)
  | _ => none)
  | _ => none)
  | _ => none)
  | _ => none
theorem de6_27_ok (vt : List AV) (vc : List Blk) (a : pl6_27 × sl6_27) (h : de6_27 vt vc = some a) : vt = vt6_27 a ∧ vc = vc6_27 a := by
  unfold de6_27 at h
  split at h
  rotate_left
  · cases h
  split at h
  rotate_left
  · cases h
  split at h
  rotate_left
  · cases h
  split at h
  rotate_left
  · cases h
  split at h
  rotate_left
  · cases h
  split at h
  rotate_left
  · cases h
  split at h
  rotate_left
  · cases h
  split at h
  rotate_left
  · cases h
  split at h
  rotate_left
  · cases h
  split at h
  rotate_left
  · cases h
  split at h
  rotate_left
  · cases h
  split at h
  rotate_left
  · cases h
  split at h
  rotate_left
  · cases h
  split at h
  rotate_left
  · cases h
  split at h
  rotate_left
  · cases h
  split at h
  rotate_left
  · cases h
  split at h
  rotate_left
  · cases h
  injection h with h
  subst h
  exact ⟨rfl, rfl⟩
noncomputable def g6_27 (p : pl6_27) (s : sl6_27) : Bool := go6_27 p.1 p.2.1 p.2.2.1 p.2.2.2.1 p.2.2.2.2.1 p.2.2.2.2.2.1 p.2.2.2.2.2.2.1 p.2.2.2.2.2.2.2.1 s.1 s.2 p.2.2.2.2.2.2.2.2
noncomputable def n6_27 (p : pl6_27) (s : sl6_27) : sl6_27 := (nx6_27_8 p.1 p.2.1 p.2.2.1 p.2.2.2.1 p.2.2.2.2.1 p.2.2.2.2.2.1 p.2.2.2.2.2.2.1 p.2.2.2.2.2.2.2.1 s.1 s.2 p.2.2.2.2.2.2.2.2, nx6_27_9 p.1 p.2.1 p.2.2.1 p.2.2.2.1 p.2.2.2.2.1 p.2.2.2.2.2.1 p.2.2.2.2.2.2.1 p.2.2.2.2.2.2.2.1 s.1 s.2 p.2.2.2.2.2.2.2.2)
noncomputable def y6_27 (p : pl6_27) (s : sl6_27) : List (Bool × Out) := [(xc6_27_0 p.1 p.2.1 p.2.2.1 p.2.2.2.1 p.2.2.2.2.1 p.2.2.2.2.2.1 p.2.2.2.2.2.2.1 p.2.2.2.2.2.2.2.1 s.1 s.2 p.2.2.2.2.2.2.2.2, (Ex.ret, [AV.int IntKind.u32 p.1, AV.bool false, AV.int IntKind.i64 p.2.1, AV.sl Tk.imm [Kd.int IntKind.i64, Kd.int IntKind.i64, Kd.int IntKind.i64, Kd.int IntKind.i64] p.2.2.1, AV.sl Tk.imm [Kd.int IntKind.i64, Kd.int IntKind.i64, Kd.int IntKind.i64, Kd.int IntKind.i64] p.2.2.2.2.1, AV.sl Tk.imm [Kd.int IntKind.i64, Kd.int IntKind.i64, Kd.int IntKind.i64, Kd.int IntKind.i64] p.2.2.2.2.2.2.1, AV.int IntKind.i64 (nx6_27_8 p.1 p.2.1 p.2.2.1 p.2.2.2.1 p.2.2.2.2.1 p.2.2.2.2.2.1 p.2.2.2.2.2.2.1 p.2.2.2.2.2.2.2.1 s.1 s.2 p.2.2.2.2.2.2.2.2)], [Blk.dead, Blk.dead, Blk.dead, Blk.row [Kd.int IntKind.i64] p.2.2.2.2.2.2.2.2, Blk.dead, Blk.dead]))]
noncomputable def z6_27 (p : pl6_27) (s : sl6_27) : Bool := xc6_27_1 p.1 p.2.1 p.2.2.1 p.2.2.2.1 p.2.2.2.2.1 p.2.2.2.2.2.1 p.2.2.2.2.2.2.1 p.2.2.2.2.2.2.2.1 s.1 s.2 p.2.2.2.2.2.2.2.2
noncomputable def d6_27 (p : pl6_27) (s : sl6_27) : Out := (Ex.exit (nat_lit 4), [AV.int IntKind.u32 p.1, AV.junk, AV.int IntKind.i64 p.2.1, AV.sl Tk.imm [Kd.int IntKind.i64, Kd.int IntKind.i64, Kd.int IntKind.i64, Kd.int IntKind.i64] p.2.2.1, AV.sl Tk.imm [Kd.int IntKind.i64, Kd.int IntKind.i64, Kd.int IntKind.i64, Kd.int IntKind.i64] p.2.2.2.2.1, AV.sl Tk.imm [Kd.int IntKind.i64, Kd.int IntKind.i64, Kd.int IntKind.i64, Kd.int IntKind.i64] p.2.2.2.2.2.2.1, AV.int IntKind.i64 s.1], [Blk.dead, Blk.dead, Blk.dead, Blk.row [Kd.int IntKind.i64] p.2.2.2.2.2.2.2.2, Blk.dead, Blk.dead])
noncomputable def ls6_27 : St → Option (Bool × List (Bool × Ex × St) × Ex × St) := lspOf [2, 13, 14, 16, 17, 18, 19, 20, 21, 22, 23] [0, 1, 2, 5] [2, 6, 14, 16, 18, 20, 22] [0, 1, 2, 5, 6, 7] Try.f6.ntmps (0 + tab.nid 6) de6_27 (spI g6_27 n6_27 y6_27 z6_27 d6_27)
theorem lo6_27 (rest : Lsp) : LoopOK1 (cfg Try.prog tab 100000 (gk k18t 30) (selL 5 ls6_5 (selL 16 ls6_16 (selL 27 ls6_27 rest))) 6 0 Try.f6.ntmps) (loopAt Try.f6 27) := LoopOK1.iter (i := 27) (by kernel_rfl) [2, 13, 14, 16, 17, 18, 19, 20, 21, 22, 23] [0, 1, 2, 5] [2, 6, 14, 16, 18, 20, 22] [0, 1, 2, 5, 6, 7] vt6_27 vc6_27 de6_27 g6_27 n6_27 y6_27 z6_27 d6_27 (fun _ => rfl) de6_27_ok (fun p s => rd6_27 (selL 27 ls6_27 rest) (p.1) (p.2.1) (p.2.2.1) (p.2.2.2.1) (p.2.2.2.2.1) (p.2.2.2.2.2.1) (p.2.2.2.2.2.2.1) (p.2.2.2.2.2.2.2.1) (s.1) (s.2) (p.2.2.2.2.2.2.2.2)) (fun _ _ => rfl)
noncomputable def go6_38 (t2 : Int) (t14 : Int) (t16 : List (List AV)) (t18 : List (List AV)) (t20 : List (List AV)) (t22 : Int) (t24 : Int) (t25 : Int) : Bool := bif decide (t25 < (↑t16.length : Int)) then bif bif decide ((0 : Int) ≤ t24) && decide (t24 < (↑t16.length : Int)) then bif decide ((0 : Int) ≤ t25) && decide (t25 < (↑t16.length : Int)) then bif decide (intOf ((t16.getD t24.toNat []).getD (0 : Nat) AV.junk) ≥ intOf ((t16.getD t25.toNat []).getD (0 : Nat) AV.junk)) then bif decide ((0 : Int) ≤ t24) && decide (t24 < (↑t16.length : Int)) then decide ((0 : Int) ≤ t25) && decide (t25 < (↑t16.length : Int)) else false else true else false else false then bif bif decide ((0 : Int) ≤ t24) && decide (t24 < (↑t16.length : Int)) then bif decide ((0 : Int) ≤ t25) && decide (t25 < (↑t16.length : Int)) then bif decide (intOf ((t16.getD t24.toNat []).getD (0 : Nat) AV.junk) ≥ intOf ((t16.getD t25.toNat []).getD (0 : Nat) AV.junk)) then bif decide ((0 : Int) ≤ t24) && decide (t24 < (↑t16.length : Int)) then bif decide ((0 : Int) ≤ t25) && decide (t25 < (↑t16.length : Int)) then decide (IntKind.i64.wrap (intOf ((t16.getD t24.toNat []).getD ((0 : Nat) + (1 : Nat) + (1 : Nat) + (1 : Nat)) AV.junk) + IntKind.i64.wrap ((2 : Int) * t14)) < intOf ((t16.getD t25.toNat []).getD ((0 : Nat) + (1 : Nat) + (1 : Nat) + (1 : Nat)) AV.junk)) else false else false else false else false else false then false else true else false else false
noncomputable def nx6_38_7 (t2 : Int) (t14 : Int) (t16 : List (List AV)) (t18 : List (List AV)) (t20 : List (List AV)) (t22 : Int) (t24 : Int) (t25 : Int) : Int := IntKind.i64.wrap (t25 + (1 : Int))
noncomputable def xc6_38_0 (t2 : Int) (t14 : Int) (t16 : List (List AV)) (t18 : List (List AV)) (t20 : List (List AV)) (t22 : Int) (t24 : Int) (t25 : Int) : Bool := bif decide (t25 < (↑t16.length : Int)) then bif bif decide ((0 : Int) ≤ t24) && decide (t24 < (↑t16.length : Int)) then bif decide ((0 : Int) ≤ t25) && decide (t25 < (↑t16.length : Int)) then bif decide (intOf ((t16.getD t24.toNat []).getD (0 : Nat) AV.junk) ≥ intOf ((t16.getD t25.toNat []).getD (0 : Nat) AV.junk)) then bif decide ((0 : Int) ≤ t24) && decide (t24 < (↑t16.length : Int)) then decide ((0 : Int) ≤ t25) && decide (t25 < (↑t16.length : Int)) else false else true else false else false then bif decide ((0 : Int) ≤ t24) && decide (t24 < (↑t16.length : Int)) then bif decide ((0 : Int) ≤ t25) && decide (t25 < (↑t16.length : Int)) then bif decide (intOf ((t16.getD t24.toNat []).getD (0 : Nat) AV.junk) ≥ intOf ((t16.getD t25.toNat []).getD (0 : Nat) AV.junk)) then bif decide ((0 : Int) ≤ t24) && decide (t24 < (↑t16.length : Int)) then bif decide ((0 : Int) ≤ t25) && decide (t25 < (↑t16.length : Int)) then decide (IntKind.i64.wrap (intOf ((t16.getD t24.toNat []).getD ((0 : Nat) + (1 : Nat) + (1 : Nat) + (1 : Nat)) AV.junk) + IntKind.i64.wrap ((2 : Int) * t14)) < intOf ((t16.getD t25.toNat []).getD ((0 : Nat) + (1 : Nat) + (1 : Nat) + (1 : Nat)) AV.junk)) else false else false else false else false else false else false else false
noncomputable def xc6_38_1 (t2 : Int) (t14 : Int) (t16 : List (List AV)) (t18 : List (List AV)) (t20 : List (List AV)) (t22 : Int) (t24 : Int) (t25 : Int) : Bool := bif decide (t25 < (↑t16.length : Int)) then false else true
theorem rd6_38 (rest : Lsp) (t2 : Int) (t14 : Int) (t16 : List (List AV)) (t18 : List (List AV)) (t20 : List (List AV)) (t22 : Int) (t24 : Int) (t25 : Int) : roundV (cfg Try.prog tab 100000 (gk k18t 30) (selL 5 ls6_5 (selL 16 ls6_16 (selL 27 ls6_27 rest))) 6 0 Try.f6.ntmps) (loopAt Try.f6 38) [2, 14, 16, 18, 20, 22, 24, 25] [0, 1, 2] [2, 6, 14, 16, 18, 20, 22, 24] [0, 1, 2, 5, 6, 7] [AV.int IntKind.u32 t2, AV.int IntKind.i64 t14, AV.sl Tk.imm [Kd.int IntKind.i64, Kd.int IntKind.i64, Kd.int IntKind.i64, Kd.int IntKind.i64] t16, AV.sl Tk.imm [Kd.int IntKind.i64, Kd.int IntKind.i64, Kd.int IntKind.i64, Kd.int IntKind.i64] t18, AV.sl Tk.imm [Kd.int IntKind.i64, Kd.int IntKind.i64, Kd.int IntKind.i64, Kd.int IntKind.i64] t20, AV.int IntKind.i64 t22, AV.int IntKind.i64 t24, AV.int IntKind.i64 t25] [Blk.dead, Blk.dead, Blk.dead] = bif go6_38 t2 t14 t16 t18 t20 t22 t24 t25 then some (Ex.norm, [AV.int IntKind.u32 t2, AV.int IntKind.i64 t14, AV.sl Tk.imm [Kd.int IntKind.i64, Kd.int IntKind.i64, Kd.int IntKind.i64, Kd.int IntKind.i64] t16, AV.sl Tk.imm [Kd.int IntKind.i64, Kd.int IntKind.i64, Kd.int IntKind.i64, Kd.int IntKind.i64] t18, AV.sl Tk.imm [Kd.int IntKind.i64, Kd.int IntKind.i64, Kd.int IntKind.i64, Kd.int IntKind.i64] t20, AV.int IntKind.i64 t22, AV.int IntKind.i64 t24, AV.int IntKind.i64 (nx6_38_7 t2 t14 t16 t18 t20 t22 t24 t25)], [Blk.dead, Blk.dead, Blk.dead]) else bif xc6_38_0 t2 t14 t16 t18 t20 t22 t24 t25 then some (Ex.ret, [AV.int IntKind.u32 t2, AV.bool false, AV.int IntKind.i64 t14, AV.sl Tk.imm [Kd.int IntKind.i64, Kd.int IntKind.i64, Kd.int IntKind.i64, Kd.int IntKind.i64] t16, AV.sl Tk.imm [Kd.int IntKind.i64, Kd.int IntKind.i64, Kd.int IntKind.i64, Kd.int IntKind.i64] t18, AV.sl Tk.imm [Kd.int IntKind.i64, Kd.int IntKind.i64, Kd.int IntKind.i64, Kd.int IntKind.i64] t20, AV.int IntKind.i64 t22, AV.int IntKind.i64 t24], [Blk.dead, Blk.dead, Blk.dead, Blk.dead, Blk.dead, Blk.dead]) else bif xc6_38_1 t2 t14 t16 t18 t20 t22 t24 t25 then some (Ex.exit (nat_lit 8), [AV.int IntKind.u32 t2, AV.junk, AV.int IntKind.i64 t14, AV.sl Tk.imm [Kd.int IntKind.i64, Kd.int IntKind.i64, Kd.int IntKind.i64, Kd.int IntKind.i64] t16, AV.sl Tk.imm [Kd.int IntKind.i64, Kd.int IntKind.i64, Kd.int IntKind.i64, Kd.int IntKind.i64] t18, AV.sl Tk.imm [Kd.int IntKind.i64, Kd.int IntKind.i64, Kd.int IntKind.i64, Kd.int IntKind.i64] t20, AV.int IntKind.i64 t22, AV.int IntKind.i64 t24], [Blk.dead, Blk.dead, Blk.dead, Blk.dead, Blk.dead, Blk.dead]) else none := by
  have h : roundV (cfg Try.prog tab 100000 (gk k18t 30) (selL 5 ls6_5 (selL 16 ls6_16 (selL 27 ls6_27 rest))) 6 0 Try.f6.ntmps) (loopAt Try.f6 38) [2, 14, 16, 18, 20, 22, 24, 25] [0, 1, 2] [2, 6, 14, 16, 18, 20, 22, 24] [0, 1, 2, 5, 6, 7] [AV.int IntKind.u32 t2, AV.int IntKind.i64 t14, AV.sl Tk.imm [Kd.int IntKind.i64, Kd.int IntKind.i64, Kd.int IntKind.i64, Kd.int IntKind.i64] t16, AV.sl Tk.imm [Kd.int IntKind.i64, Kd.int IntKind.i64, Kd.int IntKind.i64, Kd.int IntKind.i64] t18, AV.sl Tk.imm [Kd.int IntKind.i64, Kd.int IntKind.i64, Kd.int IntKind.i64, Kd.int IntKind.i64] t20, AV.int IntKind.i64 t22, AV.int IntKind.i64 t24, AV.int IntKind.i64 t25] [Blk.dead, Blk.dead, Blk.dead] = bif decide (t25 < (↑t16.length : Int)) then bif bif decide ((0 : Int) ≤ t24) && decide (t24 < (↑t16.length : Int)) then bif decide ((0 : Int) ≤ t25) && decide (t25 < (↑t16.length : Int)) then bif decide (intOf ((t16.getD t24.toNat []).getD (0 : Nat) AV.junk) ≥ intOf ((t16.getD t25.toNat []).getD (0 : Nat) AV.junk)) then bif decide ((0 : Int) ≤ t24) && decide (t24 < (↑t16.length : Int)) then bif decide ((0 : Int) ≤ t25) && decide (t25 < (↑t16.length : Int)) then true else false else false else true else false else false then bif bif decide ((0 : Int) ≤ t24) && decide (t24 < (↑t16.length : Int)) then bif decide ((0 : Int) ≤ t25) && decide (t25 < (↑t16.length : Int)) then bif decide (intOf ((t16.getD t24.toNat []).getD (0 : Nat) AV.junk) ≥ intOf ((t16.getD t25.toNat []).getD (0 : Nat) AV.junk)) then bif decide ((0 : Int) ≤ t24) && decide (t24 < (↑t16.length : Int)) then bif decide ((0 : Int) ≤ t25) && decide (t25 < (↑t16.length : Int)) then bif true then decide (IntKind.i64.wrap (intOf ((t16.getD t24.toNat []).getD ((0 : Nat) + (1 : Nat) + (1 : Nat) + (1 : Nat)) AV.junk) + IntKind.i64.wrap ((2 : Int) * t14)) < intOf ((t16.getD t25.toNat []).getD ((0 : Nat) + (1 : Nat) + (1 : Nat) + (1 : Nat)) AV.junk)) else false else false else false else false else false else false then some (Ex.ret, [AV.int IntKind.u32 t2, AV.bool false, AV.int IntKind.i64 t14, AV.sl Tk.imm [Kd.int IntKind.i64, Kd.int IntKind.i64, Kd.int IntKind.i64, Kd.int IntKind.i64] t16, AV.sl Tk.imm [Kd.int IntKind.i64, Kd.int IntKind.i64, Kd.int IntKind.i64, Kd.int IntKind.i64] t18, AV.sl Tk.imm [Kd.int IntKind.i64, Kd.int IntKind.i64, Kd.int IntKind.i64, Kd.int IntKind.i64] t20, AV.int IntKind.i64 t22, AV.int IntKind.i64 t24], [Blk.dead, Blk.dead, Blk.dead, Blk.dead, Blk.dead, Blk.dead]) else some (Ex.norm, [AV.int IntKind.u32 t2, AV.int IntKind.i64 t14, AV.sl Tk.imm [Kd.int IntKind.i64, Kd.int IntKind.i64, Kd.int IntKind.i64, Kd.int IntKind.i64] t16, AV.sl Tk.imm [Kd.int IntKind.i64, Kd.int IntKind.i64, Kd.int IntKind.i64, Kd.int IntKind.i64] t18, AV.sl Tk.imm [Kd.int IntKind.i64, Kd.int IntKind.i64, Kd.int IntKind.i64, Kd.int IntKind.i64] t20, AV.int IntKind.i64 t22, AV.int IntKind.i64 t24, AV.int IntKind.i64 (IntKind.i64.wrap (t25 + (1 : Int)))], [Blk.dead, Blk.dead, Blk.dead]) else none else some (Ex.exit (nat_lit 8), [AV.int IntKind.u32 t2, AV.junk, AV.int IntKind.i64 t14, AV.sl Tk.imm [Kd.int IntKind.i64, Kd.int IntKind.i64, Kd.int IntKind.i64, Kd.int IntKind.i64] t16, AV.sl Tk.imm [Kd.int IntKind.i64, Kd.int IntKind.i64, Kd.int IntKind.i64, Kd.int IntKind.i64] t18, AV.sl Tk.imm [Kd.int IntKind.i64, Kd.int IntKind.i64, Kd.int IntKind.i64, Kd.int IntKind.i64] t20, AV.int IntKind.i64 t22, AV.int IntKind.i64 t24], [Blk.dead, Blk.dead, Blk.dead, Blk.dead, Blk.dead, Blk.dead]) := by kernel_rfl
  rw [h]
  clear h
  unfold go6_38 nx6_38_7 xc6_38_0 xc6_38_1
  generalize (decide (IntKind.i64.wrap (intOf ((t16.getD t24.toNat []).getD ((0 : Nat) + (1 : Nat) + (1 : Nat) + (1 : Nat)) AV.junk) + IntKind.i64.wrap ((2 : Int) * t14)) < intOf ((t16.getD t25.toNat []).getD ((0 : Nat) + (1 : Nat) + (1 : Nat) + (1 : Nat)) AV.junk))) = c0
  generalize (decide (intOf ((t16.getD t24.toNat []).getD (0 : Nat) AV.junk) ≥ intOf ((t16.getD t25.toNat []).getD (0 : Nat) AV.junk))) = c1
  generalize (decide ((0 : Int) ≤ t25) && decide (t25 < (↑t16.length : Int))) = c2
  generalize (decide ((0 : Int) ≤ t24) && decide (t24 < (↑t16.length : Int))) = c3
  generalize (decide (t25 < (↑t16.length : Int))) = c4
  cases c4
  · skip
    rfl
  · skip
    cases c3
    · skip
      rfl
    · skip
      cases c2
      · skip
        rfl
      · skip
        cases c1
        · skip
          rfl
        · skip
          cases c0
          · skip
            rfl
          · skip
            rfl
abbrev pl6_38 : Type := Int × Int × (List (List AV)) × (List (List AV)) × (List (List AV)) × Int × Int
abbrev sl6_38 : Type := Int
noncomputable def vt6_38 (a : pl6_38 × sl6_38) : List AV := [AV.int IntKind.u32 a.1.1, AV.int IntKind.i64 a.1.2.1, AV.sl Tk.imm [Kd.int IntKind.i64, Kd.int IntKind.i64, Kd.int IntKind.i64, Kd.int IntKind.i64] a.1.2.2.1, AV.sl Tk.imm [Kd.int IntKind.i64, Kd.int IntKind.i64, Kd.int IntKind.i64, Kd.int IntKind.i64] a.1.2.2.2.1, AV.sl Tk.imm [Kd.int IntKind.i64, Kd.int IntKind.i64, Kd.int IntKind.i64, Kd.int IntKind.i64] a.1.2.2.2.2.1, AV.int IntKind.i64 a.1.2.2.2.2.2.1, AV.int IntKind.i64 a.1.2.2.2.2.2.2, AV.int IntKind.i64 a.2]
noncomputable def vc6_38 (a : pl6_38 × sl6_38) : List Blk := [Blk.dead, Blk.dead, Blk.dead]
noncomputable def de6_38 (vt : List AV) (vc : List Blk) : Option (pl6_38 × sl6_38) :=
  match vt with
  | [qa0, qa1, qa2, qa3, qa4, qa5, qa6, qa7] => (match vc with
  | [qb0, qb1, qb2] => (match qa0 with
  | AV.int IntKind.u32 t2 => (match qa1 with
  | AV.int IntKind.i64 t14 => (match qa2 with
  | AV.sl Tk.imm [Kd.int IntKind.i64, Kd.int IntKind.i64, Kd.int IntKind.i64, Kd.int IntKind.i64] t16 => (match qa3 with
  | AV.sl Tk.imm [Kd.int IntKind.i64, Kd.int IntKind.i64, Kd.int IntKind.i64, Kd.int IntKind.i64] t18 => (match qa4 with
  | AV.sl Tk.imm [Kd.int IntKind.i64, Kd.int IntKind.i64, Kd.int IntKind.i64, Kd.int IntKind.i64] t20 => (match qa5 with
  | AV.int IntKind.i64 t22 => (match qa6 with
  | AV.int IntKind.i64 t24 => (match qa7 with
  | AV.int IntKind.i64 t25 => (match qb0 with
  | Blk.dead => (match qb1 with
  | Blk.dead => (match qb2 with
  | Blk.dead => (some ((t2, t14, t16, t18, t20, t22, t24), t25))
  | _ => none)
  | _ => none)
  | _ => none)
  | _ => none)
  | _ => none)
  | _ => none)
  | _ => none)
  | _ => none)
  | _ => none)
  | _ => none)
  | _ => none)
  | _ => none)
  | _ => none
theorem de6_38_ok (vt : List AV) (vc : List Blk) (a : pl6_38 × sl6_38) (h : de6_38 vt vc = some a) : vt = vt6_38 a ∧ vc = vc6_38 a := by
  unfold de6_38 at h
  split at h
  rotate_left
  · cases h
  split at h
  rotate_left
  · cases h
  split at h
  rotate_left
  · cases h
  split at h
  rotate_left
  · cases h
  split at h
  rotate_left
  · cases h
  split at h
  rotate_left
  · cases h
  split at h
  rotate_left
  · cases h
  split at h
  rotate_left
  · cases h
  split at h
  rotate_left
  · cases h
  split at h
  rotate_left
  · cases h
  split at h
  rotate_left
  · cases h
  split at h
  rotate_left
  · cases h
  split at h
  rotate_left
  · cases h
  injection h with h
  subst h
  exact ⟨rfl, rfl⟩
noncomputable def g6_38 (p : pl6_38) (s : sl6_38) : Bool := go6_38 p.1 p.2.1 p.2.2.1 p.2.2.2.1 p.2.2.2.2.1 p.2.2.2.2.2.1 p.2.2.2.2.2.2 s
noncomputable def n6_38 (p : pl6_38) (s : sl6_38) : sl6_38 := nx6_38_7 p.1 p.2.1 p.2.2.1 p.2.2.2.1 p.2.2.2.2.1 p.2.2.2.2.2.1 p.2.2.2.2.2.2 s
noncomputable def y6_38 (p : pl6_38) (s : sl6_38) : List (Bool × Out) := [(xc6_38_0 p.1 p.2.1 p.2.2.1 p.2.2.2.1 p.2.2.2.2.1 p.2.2.2.2.2.1 p.2.2.2.2.2.2 s, (Ex.ret, [AV.int IntKind.u32 p.1, AV.bool false, AV.int IntKind.i64 p.2.1, AV.sl Tk.imm [Kd.int IntKind.i64, Kd.int IntKind.i64, Kd.int IntKind.i64, Kd.int IntKind.i64] p.2.2.1, AV.sl Tk.imm [Kd.int IntKind.i64, Kd.int IntKind.i64, Kd.int IntKind.i64, Kd.int IntKind.i64] p.2.2.2.1, AV.sl Tk.imm [Kd.int IntKind.i64, Kd.int IntKind.i64, Kd.int IntKind.i64, Kd.int IntKind.i64] p.2.2.2.2.1, AV.int IntKind.i64 p.2.2.2.2.2.1, AV.int IntKind.i64 p.2.2.2.2.2.2], [Blk.dead, Blk.dead, Blk.dead, Blk.dead, Blk.dead, Blk.dead]))]
noncomputable def z6_38 (p : pl6_38) (s : sl6_38) : Bool := xc6_38_1 p.1 p.2.1 p.2.2.1 p.2.2.2.1 p.2.2.2.2.1 p.2.2.2.2.2.1 p.2.2.2.2.2.2 s
noncomputable def d6_38 (p : pl6_38) (s : sl6_38) : Out := (Ex.exit (nat_lit 8), [AV.int IntKind.u32 p.1, AV.junk, AV.int IntKind.i64 p.2.1, AV.sl Tk.imm [Kd.int IntKind.i64, Kd.int IntKind.i64, Kd.int IntKind.i64, Kd.int IntKind.i64] p.2.2.1, AV.sl Tk.imm [Kd.int IntKind.i64, Kd.int IntKind.i64, Kd.int IntKind.i64, Kd.int IntKind.i64] p.2.2.2.1, AV.sl Tk.imm [Kd.int IntKind.i64, Kd.int IntKind.i64, Kd.int IntKind.i64, Kd.int IntKind.i64] p.2.2.2.2.1, AV.int IntKind.i64 p.2.2.2.2.2.1, AV.int IntKind.i64 p.2.2.2.2.2.2], [Blk.dead, Blk.dead, Blk.dead, Blk.dead, Blk.dead, Blk.dead])
noncomputable def ls6_38 : St → Option (Bool × List (Bool × Ex × St) × Ex × St) := lspOf [2, 14, 16, 18, 20, 22, 24, 25] [0, 1, 2] [2, 6, 14, 16, 18, 20, 22, 24] [0, 1, 2, 5, 6, 7] Try.f6.ntmps (0 + tab.nid 6) de6_38 (spI g6_38 n6_38 y6_38 z6_38 d6_38)
theorem lo6_38 (rest : Lsp) : LoopOK1 (cfg Try.prog tab 100000 (gk k18t 30) (selL 5 ls6_5 (selL 16 ls6_16 (selL 27 ls6_27 (selL 38 ls6_38 rest)))) 6 0 Try.f6.ntmps) (loopAt Try.f6 38) := LoopOK1.iter (i := 38) (by kernel_rfl) [2, 14, 16, 18, 20, 22, 24, 25] [0, 1, 2] [2, 6, 14, 16, 18, 20, 22, 24] [0, 1, 2, 5, 6, 7] vt6_38 vc6_38 de6_38 g6_38 n6_38 y6_38 z6_38 d6_38 (fun _ => rfl) de6_38_ok (fun p s => rd6_38 (selL 38 ls6_38 rest) (p.1) (p.2.1) (p.2.2.1) (p.2.2.2.1) (p.2.2.2.2.1) (p.2.2.2.2.2.1) (p.2.2.2.2.2.2) s) (fun _ _ => rfl)
noncomputable def rn6_33_0 (t2 : Int) (t14 : Int) (t16 : List (List AV)) (t18 : List (List AV)) (t20 : List (List AV)) (t22 : Int) (t24 : Int) : sl6_38 := finL (g6_38 (t2, t14, t16, t18, t20, t22, t24)) (n6_38 (t2, t14, t16, t18, t20, t22, t24)) (0 : Int)
noncomputable def go6_33 (t2 : Int) (t14 : Int) (t16 : List (List AV)) (t18 : List (List AV)) (t20 : List (List AV)) (t22 : Int) (t24 : Int) : Bool := bif decide (t24 < (↑t16.length : Int)) then bif bif decide ((0 : Int) ≤ t24) && decide (t24 < (↑t16.length : Int)) then bif decide ((0 : Int) ≤ t24) && decide (t24 < (↑t18.length : Int)) then bif intOf ((t16.getD t24.toNat []).getD ((0 : Nat) + (1 : Nat) + (1 : Nat) + (1 : Nat)) AV.junk) != intOf ((t18.getD t24.toNat []).getD ((0 : Nat) + (1 : Nat) + (1 : Nat) + (1 : Nat)) AV.junk) then true else bif decide ((0 : Int) ≤ t24) && decide (t24 < (↑t18.length : Int)) then bif decide ((0 : Int) ≤ t24) && decide (t24 < (↑t16.length : Int)) then bif intOf ((t18.getD t24.toNat []).getD ((0 : Nat) + (1 : Nat)) AV.junk) != IntKind.i64.wrap (intOf ((t16.getD t24.toNat []).getD ((0 : Nat) + (1 : Nat)) AV.junk) + IntKind.i64.wrap t2) then decide ((0 : Int) ≤ t24) && decide (t24 < (↑t18.length : Int)) else true else false else false else false else false then bif bif decide ((0 : Int) ≤ t24) && decide (t24 < (↑t16.length : Int)) then bif decide ((0 : Int) ≤ t24) && decide (t24 < (↑t18.length : Int)) then bif intOf ((t16.getD t24.toNat []).getD ((0 : Nat) + (1 : Nat) + (1 : Nat) + (1 : Nat)) AV.junk) != intOf ((t18.getD t24.toNat []).getD ((0 : Nat) + (1 : Nat) + (1 : Nat) + (1 : Nat)) AV.junk) then true else bif decide ((0 : Int) ≤ t24) && decide (t24 < (↑t18.length : Int)) then bif decide ((0 : Int) ≤ t24) && decide (t24 < (↑t16.length : Int)) then bif intOf ((t18.getD t24.toNat []).getD ((0 : Nat) + (1 : Nat)) AV.junk) != IntKind.i64.wrap (intOf ((t16.getD t24.toNat []).getD ((0 : Nat) + (1 : Nat)) AV.junk) + IntKind.i64.wrap t2) then bif decide ((0 : Int) ≤ t24) && decide (t24 < (↑t18.length : Int)) then decide (intOf ((t18.getD t24.toNat []).getD ((0 : Nat) + (1 : Nat) + (1 : Nat) + (1 : Nat)) AV.junk) > (0 : Int)) else false else false else false else false else false else false then false else bif (spI g6_38 n6_38 y6_38 z6_38 d6_38 ((t2, t14, t16, t18, t20, t22, t24), (0 : Int))).fst then bif xc6_38_0 t2 t14 t16 t18 t20 t22 t24 (rn6_33_0 t2 t14 t16 t18 t20 t22 t24) then false else true else false else false else false
noncomputable def nx6_33_6 (t2 : Int) (t14 : Int) (t16 : List (List AV)) (t18 : List (List AV)) (t20 : List (List AV)) (t22 : Int) (t24 : Int) : Int := IntKind.i64.wrap (t24 + (1 : Int))
noncomputable def xc6_33_0 (t2 : Int) (t14 : Int) (t16 : List (List AV)) (t18 : List (List AV)) (t20 : List (List AV)) (t22 : Int) (t24 : Int) : Bool := bif decide (t24 < (↑t16.length : Int)) then bif bif decide ((0 : Int) ≤ t24) && decide (t24 < (↑t16.length : Int)) then bif decide ((0 : Int) ≤ t24) && decide (t24 < (↑t18.length : Int)) then bif intOf ((t16.getD t24.toNat []).getD ((0 : Nat) + (1 : Nat) + (1 : Nat) + (1 : Nat)) AV.junk) != intOf ((t18.getD t24.toNat []).getD ((0 : Nat) + (1 : Nat) + (1 : Nat) + (1 : Nat)) AV.junk) then true else bif decide ((0 : Int) ≤ t24) && decide (t24 < (↑t18.length : Int)) then bif decide ((0 : Int) ≤ t24) && decide (t24 < (↑t16.length : Int)) then bif intOf ((t18.getD t24.toNat []).getD ((0 : Nat) + (1 : Nat)) AV.junk) != IntKind.i64.wrap (intOf ((t16.getD t24.toNat []).getD ((0 : Nat) + (1 : Nat)) AV.junk) + IntKind.i64.wrap t2) then decide ((0 : Int) ≤ t24) && decide (t24 < (↑t18.length : Int)) else true else false else false else false else false then bif bif decide ((0 : Int) ≤ t24) && decide (t24 < (↑t16.length : Int)) then bif decide ((0 : Int) ≤ t24) && decide (t24 < (↑t18.length : Int)) then bif intOf ((t16.getD t24.toNat []).getD ((0 : Nat) + (1 : Nat) + (1 : Nat) + (1 : Nat)) AV.junk) != intOf ((t18.getD t24.toNat []).getD ((0 : Nat) + (1 : Nat) + (1 : Nat) + (1 : Nat)) AV.junk) then true else bif decide ((0 : Int) ≤ t24) && decide (t24 < (↑t18.length : Int)) then bif decide ((0 : Int) ≤ t24) && decide (t24 < (↑t16.length : Int)) then bif intOf ((t18.getD t24.toNat []).getD ((0 : Nat) + (1 : Nat)) AV.junk) != IntKind.i64.wrap (intOf ((t16.getD t24.toNat []).getD ((0 : Nat) + (1 : Nat)) AV.junk) + IntKind.i64.wrap t2) then bif decide ((0 : Int) ≤ t24) && decide (t24 < (↑t18.length : Int)) then decide (intOf ((t18.getD t24.toNat []).getD ((0 : Nat) + (1 : Nat) + (1 : Nat) + (1 : Nat)) AV.junk) > (0 : Int)) else false else false else false else false else false else false then true else bif (spI g6_38 n6_38 y6_38 z6_38 d6_38 ((t2, t14, t16, t18, t20, t22, t24), (0 : Int))).fst then xc6_38_0 t2 t14 t16 t18 t20 t22 t24 (rn6_33_0 t2 t14 t16 t18 t20 t22 t24) else false else false else false
noncomputable def xc6_33_1 (t2 : Int) (t14 : Int) (t16 : List (List AV)) (t18 : List (List AV)) (t20 : List (List AV)) (t22 : Int) (t24 : Int) : Bool := bif decide (t24 < (↑t16.length : Int)) then false else true
theorem rd6_33 (rest : Lsp) (t2 : Int) (t14 : Int) (t16 : List (List AV)) (t18 : List (List AV)) (t20 : List (List AV)) (t22 : Int) (t24 : Int) : roundV (cfg Try.prog tab 100000 (gk k18t 30) (selL 5 ls6_5 (selL 16 ls6_16 (selL 27 ls6_27 (selL 38 ls6_38 rest)))) 6 0 Try.f6.ntmps) (loopAt Try.f6 33) [2, 14, 16, 18, 20, 22, 24] [0, 1, 2] [6, 20, 22] [0, 1, 5, 6] [AV.int IntKind.u32 t2, AV.int IntKind.i64 t14, AV.sl Tk.imm [Kd.int IntKind.i64, Kd.int IntKind.i64, Kd.int IntKind.i64, Kd.int IntKind.i64] t16, AV.sl Tk.imm [Kd.int IntKind.i64, Kd.int IntKind.i64, Kd.int IntKind.i64, Kd.int IntKind.i64] t18, AV.sl Tk.imm [Kd.int IntKind.i64, Kd.int IntKind.i64, Kd.int IntKind.i64, Kd.int IntKind.i64] t20, AV.int IntKind.i64 t22, AV.int IntKind.i64 t24] [Blk.dead, Blk.dead, Blk.dead] = bif go6_33 t2 t14 t16 t18 t20 t22 t24 then some (Ex.norm, [AV.int IntKind.u32 t2, AV.int IntKind.i64 t14, AV.sl Tk.imm [Kd.int IntKind.i64, Kd.int IntKind.i64, Kd.int IntKind.i64, Kd.int IntKind.i64] t16, AV.sl Tk.imm [Kd.int IntKind.i64, Kd.int IntKind.i64, Kd.int IntKind.i64, Kd.int IntKind.i64] t18, AV.sl Tk.imm [Kd.int IntKind.i64, Kd.int IntKind.i64, Kd.int IntKind.i64, Kd.int IntKind.i64] t20, AV.int IntKind.i64 t22, AV.int IntKind.i64 (nx6_33_6 t2 t14 t16 t18 t20 t22 t24)], [Blk.dead, Blk.dead, Blk.dead]) else bif xc6_33_0 t2 t14 t16 t18 t20 t22 t24 then some (Ex.ret, [AV.bool false, AV.sl Tk.imm [Kd.int IntKind.i64, Kd.int IntKind.i64, Kd.int IntKind.i64, Kd.int IntKind.i64] t20, AV.int IntKind.i64 t22], [Blk.dead, Blk.dead, Blk.dead, Blk.dead]) else bif xc6_33_1 t2 t14 t16 t18 t20 t22 t24 then some (Ex.exit (nat_lit 6), [AV.junk, AV.sl Tk.imm [Kd.int IntKind.i64, Kd.int IntKind.i64, Kd.int IntKind.i64, Kd.int IntKind.i64] t20, AV.int IntKind.i64 t22], [Blk.dead, Blk.dead, Blk.dead, Blk.dead]) else none := by
  have h : roundV (cfg Try.prog tab 100000 (gk k18t 30) (selL 5 ls6_5 (selL 16 ls6_16 (selL 27 ls6_27 (selL 38 ls6_38 rest)))) 6 0 Try.f6.ntmps) (loopAt Try.f6 33) [2, 14, 16, 18, 20, 22, 24] [0, 1, 2] [6, 20, 22] [0, 1, 5, 6] [AV.int IntKind.u32 t2, AV.int IntKind.i64 t14, AV.sl Tk.imm [Kd.int IntKind.i64, Kd.int IntKind.i64, Kd.int IntKind.i64, Kd.int IntKind.i64] t16, AV.sl Tk.imm [Kd.int IntKind.i64, Kd.int IntKind.i64, Kd.int IntKind.i64, Kd.int IntKind.i64] t18, AV.sl Tk.imm [Kd.int IntKind.i64, Kd.int IntKind.i64, Kd.int IntKind.i64, Kd.int IntKind.i64] t20, AV.int IntKind.i64 t22, AV.int IntKind.i64 t24] [Blk.dead, Blk.dead, Blk.dead] = bif decide (t24 < (↑t16.length : Int)) then bif bif decide ((0 : Int) ≤ t24) && decide (t24 < (↑t16.length : Int)) then bif decide ((0 : Int) ≤ t24) && decide (t24 < (↑t18.length : Int)) then bif intOf ((t16.getD t24.toNat []).getD ((0 : Nat) + (1 : Nat) + (1 : Nat) + (1 : Nat)) AV.junk) != intOf ((t18.getD t24.toNat []).getD ((0 : Nat) + (1 : Nat) + (1 : Nat) + (1 : Nat)) AV.junk) then true else bif decide ((0 : Int) ≤ t24) && decide (t24 < (↑t18.length : Int)) then bif decide ((0 : Int) ≤ t24) && decide (t24 < (↑t16.length : Int)) then bif intOf ((t18.getD t24.toNat []).getD ((0 : Nat) + (1 : Nat)) AV.junk) != IntKind.i64.wrap (intOf ((t16.getD t24.toNat []).getD ((0 : Nat) + (1 : Nat)) AV.junk) + IntKind.i64.wrap t2) then bif decide ((0 : Int) ≤ t24) && decide (t24 < (↑t18.length : Int)) then true else false else true else false else false else false else false then bif bif decide ((0 : Int) ≤ t24) && decide (t24 < (↑t16.length : Int)) then bif decide ((0 : Int) ≤ t24) && decide (t24 < (↑t18.length : Int)) then bif intOf ((t16.getD t24.toNat []).getD ((0 : Nat) + (1 : Nat) + (1 : Nat) + (1 : Nat)) AV.junk) != intOf ((t18.getD t24.toNat []).getD ((0 : Nat) + (1 : Nat) + (1 : Nat) + (1 : Nat)) AV.junk) then true else bif decide ((0 : Int) ≤ t24) && decide (t24 < (↑t18.length : Int)) then bif decide ((0 : Int) ≤ t24) && decide (t24 < (↑t16.length : Int)) then bif intOf ((t18.getD t24.toNat []).getD ((0 : Nat) + (1 : Nat)) AV.junk) != IntKind.i64.wrap (intOf ((t16.getD t24.toNat []).getD ((0 : Nat) + (1 : Nat)) AV.junk) + IntKind.i64.wrap t2) then bif decide ((0 : Int) ≤ t24) && decide (t24 < (↑t18.length : Int)) then bif false then true else bif true then decide (intOf ((t18.getD t24.toNat []).getD ((0 : Nat) + (1 : Nat) + (1 : Nat) + (1 : Nat)) AV.junk) > (0 : Int)) else false else false else bif false then true else false else false else false else false else false then some (Ex.ret, [AV.bool false, AV.sl Tk.imm [Kd.int IntKind.i64, Kd.int IntKind.i64, Kd.int IntKind.i64, Kd.int IntKind.i64] t20, AV.int IntKind.i64 t22], [Blk.dead, Blk.dead, Blk.dead, Blk.dead]) else bif (spI g6_38 n6_38 y6_38 z6_38 d6_38 ((t2, t14, t16, t18, t20, t22, t24), (0 : Int))).fst then bif xc6_38_0 t2 t14 t16 t18 t20 t22 t24 (rn6_33_0 t2 t14 t16 t18 t20 t22 t24) then some (Ex.ret, [AV.bool false, AV.sl Tk.imm [Kd.int IntKind.i64, Kd.int IntKind.i64, Kd.int IntKind.i64, Kd.int IntKind.i64] t20, AV.int IntKind.i64 t22], [Blk.dead, Blk.dead, Blk.dead, Blk.dead]) else some (Ex.norm, [AV.int IntKind.u32 t2, AV.int IntKind.i64 t14, AV.sl Tk.imm [Kd.int IntKind.i64, Kd.int IntKind.i64, Kd.int IntKind.i64, Kd.int IntKind.i64] t16, AV.sl Tk.imm [Kd.int IntKind.i64, Kd.int IntKind.i64, Kd.int IntKind.i64, Kd.int IntKind.i64] t18, AV.sl Tk.imm [Kd.int IntKind.i64, Kd.int IntKind.i64, Kd.int IntKind.i64, Kd.int IntKind.i64] t20, AV.int IntKind.i64 t22, AV.int IntKind.i64 (IntKind.i64.wrap (t24 + (1 : Int)))], [Blk.dead, Blk.dead, Blk.dead]) else none else none else some (Ex.exit (nat_lit 6), [AV.junk, AV.sl Tk.imm [Kd.int IntKind.i64, Kd.int IntKind.i64, Kd.int IntKind.i64, Kd.int IntKind.i64] t20, AV.int IntKind.i64 t22], [Blk.dead, Blk.dead, Blk.dead, Blk.dead]) := by kernel_rfl
  rw [h]
  clear h
  unfold go6_33 nx6_33_6 xc6_33_0 xc6_33_1
  generalize (decide (intOf ((t18.getD t24.toNat []).getD ((0 : Nat) + (1 : Nat) + (1 : Nat) + (1 : Nat)) AV.junk) > (0 : Int))) = c0
  generalize ((spI g6_38 n6_38 y6_38 z6_38 d6_38 ((t2, t14, t16, t18, t20, t22, t24), (0 : Int))).fst) = c1
  generalize (intOf ((t16.getD t24.toNat []).getD ((0 : Nat) + (1 : Nat) + (1 : Nat) + (1 : Nat)) AV.junk) != intOf ((t18.getD t24.toNat []).getD ((0 : Nat) + (1 : Nat) + (1 : Nat) + (1 : Nat)) AV.junk)) = c2
  generalize (intOf ((t18.getD t24.toNat []).getD ((0 : Nat) + (1 : Nat)) AV.junk) != IntKind.i64.wrap (intOf ((t16.getD t24.toNat []).getD ((0 : Nat) + (1 : Nat)) AV.junk) + IntKind.i64.wrap t2)) = c3
  generalize (decide ((0 : Int) ≤ t24) && decide (t24 < (↑t18.length : Int))) = c4
  generalize (decide ((0 : Int) ≤ t24) && decide (t24 < (↑t16.length : Int))) = c5
  generalize (decide (t24 < (↑t16.length : Int))) = c6
  generalize (xc6_38_0 t2 t14 t16 t18 t20 t22 t24 (rn6_33_0 t2 t14 t16 t18 t20 t22 t24)) = c7
  cases c6
  · skip
    rfl
  · skip
    cases c5
    · skip
      rfl
    · skip
      cases c4
      · skip
        rfl
      · skip
        cases c2
        · skip
          cases c3
          · skip
            cases c1
            · skip
              rfl
            · skip
              cases c7
              · skip
                rfl
              · skip
                rfl
          · skip
            cases c0
            · skip
              cases c1
              · skip
                rfl
              · skip
                cases c7
                · skip
                  rfl
                · skip
                  rfl
            · skip
              rfl
        · skip
          rfl
abbrev pl6_33 : Type := Int × Int × (List (List AV)) × (List (List AV)) × (List (List AV)) × Int
abbrev sl6_33 : Type := Int
noncomputable def vt6_33 (a : pl6_33 × sl6_33) : List AV := [AV.int IntKind.u32 a.1.1, AV.int IntKind.i64 a.1.2.1, AV.sl Tk.imm [Kd.int IntKind.i64, Kd.int IntKind.i64, Kd.int IntKind.i64, Kd.int IntKind.i64] a.1.2.2.1, AV.sl Tk.imm [Kd.int IntKind.i64, Kd.int IntKind.i64, Kd.int IntKind.i64, Kd.int IntKind.i64] a.1.2.2.2.1, AV.sl Tk.imm [Kd.int IntKind.i64, Kd.int IntKind.i64, Kd.int IntKind.i64, Kd.int IntKind.i64] a.1.2.2.2.2.1, AV.int IntKind.i64 a.1.2.2.2.2.2, AV.int IntKind.i64 a.2]
noncomputable def vc6_33 (a : pl6_33 × sl6_33) : List Blk := [Blk.dead, Blk.dead, Blk.dead]
noncomputable def de6_33 (vt : List AV) (vc : List Blk) : Option (pl6_33 × sl6_33) :=
  match vt with
  | [qa0, qa1, qa2, qa3, qa4, qa5, qa6] => (match vc with
  | [qb0, qb1, qb2] => (match qa0 with
  | AV.int IntKind.u32 t2 => (match qa1 with
  | AV.int IntKind.i64 t14 => (match qa2 with
  | AV.sl Tk.imm [Kd.int IntKind.i64, Kd.int IntKind.i64, Kd.int IntKind.i64, Kd.int IntKind.i64] t16 => (match qa3 with
  | AV.sl Tk.imm [Kd.int IntKind.i64, Kd.int IntKind.i64, Kd.int IntKind.i64, Kd.int IntKind.i64] t18 => (match qa4 with
  | AV.sl Tk.imm [Kd.int IntKind.i64, Kd.int IntKind.i64, Kd.int IntKind.i64, Kd.int IntKind.i64] t20 => (match qa5 with
  | AV.int IntKind.i64 t22 => (match qa6 with
  | AV.int IntKind.i64 t24 => (match qb0 with
  | Blk.dead => (match qb1 with
  | Blk.dead => (match qb2 with
  | Blk.dead => (some ((t2, t14, t16, t18, t20, t22), t24))
  | _ => none)
  | _ => none)
  | _ => none)
  | _ => none)
  | _ => none)
  | _ => none)
  | _ => none)
  | _ => none)
  | _ => none)
  | _ => none)
  | _ => none)
  | _ => none
theorem de6_33_ok (vt : List AV) (vc : List Blk) (a : pl6_33 × sl6_33) (h : de6_33 vt vc = some a) : vt = vt6_33 a ∧ vc = vc6_33 a := by
  unfold de6_33 at h
  split at h
  rotate_left
  · cases h
  split at h
  rotate_left
  · cases h
  split at h
  rotate_left
  · cases h
  split at h
  rotate_left
  · cases h
  split at h
  rotate_left
  · cases h
  split at h
  rotate_left
  · cases h
  split at h
  rotate_left
  · cases h
  split at h
  rotate_left
  · cases h
  split at h
  rotate_left
  · cases h
  split at h
  rotate_left
  · cases h
  split at h
  rotate_left
  · cases h
  split at h
  rotate_left
  · cases h
  injection h with h
  subst h
  exact ⟨rfl, rfl⟩
noncomputable def g6_33 (p : pl6_33) (s : sl6_33) : Bool := go6_33 p.1 p.2.1 p.2.2.1 p.2.2.2.1 p.2.2.2.2.1 p.2.2.2.2.2 s
noncomputable def n6_33 (p : pl6_33) (s : sl6_33) : sl6_33 := nx6_33_6 p.1 p.2.1 p.2.2.1 p.2.2.2.1 p.2.2.2.2.1 p.2.2.2.2.2 s
noncomputable def y6_33 (p : pl6_33) (s : sl6_33) : List (Bool × Out) := [(xc6_33_0 p.1 p.2.1 p.2.2.1 p.2.2.2.1 p.2.2.2.2.1 p.2.2.2.2.2 s, (Ex.ret, [AV.bool false, AV.sl Tk.imm [Kd.int IntKind.i64, Kd.int IntKind.i64, Kd.int IntKind.i64, Kd.int IntKind.i64] p.2.2.2.2.1, AV.int IntKind.i64 p.2.2.2.2.2], [Blk.dead, Blk.dead, Blk.dead, Blk.dead]))]
noncomputable def z6_33 (p : pl6_33) (s : sl6_33) : Bool := xc6_33_1 p.1 p.2.1 p.2.2.1 p.2.2.2.1 p.2.2.2.2.1 p.2.2.2.2.2 s
noncomputable def d6_33 (p : pl6_33) (s : sl6_33) : Out := (Ex.exit (nat_lit 6), [AV.junk, AV.sl Tk.imm [Kd.int IntKind.i64, Kd.int IntKind.i64, Kd.int IntKind.i64, Kd.int IntKind.i64] p.2.2.2.2.1, AV.int IntKind.i64 p.2.2.2.2.2], [Blk.dead, Blk.dead, Blk.dead, Blk.dead])
noncomputable def ls6_33 : St → Option (Bool × List (Bool × Ex × St) × Ex × St) := lspOf [2, 14, 16, 18, 20, 22, 24] [0, 1, 2] [6, 20, 22] [0, 1, 5, 6] Try.f6.ntmps (0 + tab.nid 6) de6_33 (spI g6_33 n6_33 y6_33 z6_33 d6_33)
theorem lo6_33 (rest : Lsp) : LoopOK1 (cfg Try.prog tab 100000 (gk k18t 30) (selL 5 ls6_5 (selL 16 ls6_16 (selL 27 ls6_27 (selL 38 ls6_38 (selL 33 ls6_33 rest))))) 6 0 Try.f6.ntmps) (loopAt Try.f6 33) := LoopOK1.iter (i := 33) (by kernel_rfl) [2, 14, 16, 18, 20, 22, 24] [0, 1, 2] [6, 20, 22] [0, 1, 5, 6] vt6_33 vc6_33 de6_33 g6_33 n6_33 y6_33 z6_33 d6_33 (fun _ => rfl) de6_33_ok (fun p s => rd6_33 (selL 33 ls6_33 rest) (p.1) (p.2.1) (p.2.2.1) (p.2.2.2.1) (p.2.2.2.2.1) (p.2.2.2.2.2) s) (fun _ _ => rfl)
noncomputable def lsp6 : Lsp := (selL 5 ls6_5 (selL 16 ls6_16 (selL 27 ls6_27 (selL 38 ls6_38 (selL 33 ls6_33 noLsp)))))
theorem loops6 : ∀ c, Try.f6.body = some c → LoopsOK (cfg Try.prog tab 100000 (gk k18t 30) lsp6 6 0 Try.f6.ntmps) c := loops_of [5, 16, 27, 33, 38] (by kernel_rfl) (by kernel_rfl) (fun i hi => by
  simp only [List.mem_cons, List.not_mem_nil, or_false] at hi
  rcases hi with rfl | rfl | rfl | rfl | rfl
  · exact lo6_5 (selL 16 ls6_16 (selL 27 ls6_27 (selL 38 ls6_38 (selL 33 ls6_33 noLsp))))
  · exact lo6_16 (selL 27 ls6_27 (selL 38 ls6_38 (selL 33 ls6_33 noLsp)))
  · exact lo6_27 (selL 38 ls6_38 (selL 33 ls6_33 noLsp))
  · exact lo6_33 noLsp
  · exact lo6_38 (selL 33 ls6_33 noLsp))
noncomputable def rev6_0 (ws : List (List AV)) (cs : List (List AV)) (off : Int) : sl6_5 := finL (g6_5 (ws, cs, off)) (n6_5 (ws, cs, off)) ((0 : Int), [], [])
noncomputable def rev6_1 (ws : List (List AV)) (cs : List (List AV)) (off : Int) : sl6_16 := finL (g6_16 (cs, off, (rev6_0 ws cs off).snd.fst, (rev6_0 ws cs off).snd.snd)) (n6_16 (cs, off, (rev6_0 ws cs off).snd.fst, (rev6_0 ws cs off).snd.snd)) ((0 : Int), (0 : Int), [])
noncomputable def rev6_2 (ws : List (List AV)) (cs : List (List AV)) (off : Int) : sl6_27 := finL (g6_27 (off, (rev6_1 ws cs off).fst, vev18t_0 Tk.lent Tk.lent (rev6_0 ws cs off).snd.fst (rev6_1 ws cs off).snd.snd, vev18t_1 Tk.lent Tk.lent (rev6_0 ws cs off).snd.fst (rev6_1 ws cs off).snd.snd, vev18t_0 Tk.lent Tk.lent (rev6_0 ws cs off).snd.snd (rev6_1 ws cs off).snd.snd, vev18t_1 Tk.lent Tk.lent (rev6_0 ws cs off).snd.snd (rev6_1 ws cs off).snd.snd, vev18t_0 Tk.lent Tk.lent (List.take (Int.toNat (1 : Int)) (List.drop (0 : Nat) (rev6_0 ws cs off).snd.fst)) (rev6_1 ws cs off).snd.snd, vev18t_1 Tk.lent Tk.lent (List.take (Int.toNat (1 : Int)) (List.drop (0 : Nat) (rev6_0 ws cs off).snd.fst)) (rev6_1 ws cs off).snd.snd, (rev6_1 ws cs off).snd.snd)) (n6_27 (off, (rev6_1 ws cs off).fst, vev18t_0 Tk.lent Tk.lent (rev6_0 ws cs off).snd.fst (rev6_1 ws cs off).snd.snd, vev18t_1 Tk.lent Tk.lent (rev6_0 ws cs off).snd.fst (rev6_1 ws cs off).snd.snd, vev18t_0 Tk.lent Tk.lent (rev6_0 ws cs off).snd.snd (rev6_1 ws cs off).snd.snd, vev18t_1 Tk.lent Tk.lent (rev6_0 ws cs off).snd.snd (rev6_1 ws cs off).snd.snd, vev18t_0 Tk.lent Tk.lent (List.take (Int.toNat (1 : Int)) (List.drop (0 : Nat) (rev6_0 ws cs off).snd.fst)) (rev6_1 ws cs off).snd.snd, vev18t_1 Tk.lent Tk.lent (List.take (Int.toNat (1 : Int)) (List.drop (0 : Nat) (rev6_0 ws cs off).snd.fst)) (rev6_1 ws cs off).snd.snd, (rev6_1 ws cs off).snd.snd)) ((0 : Int), (0 : Int))
noncomputable def rev6_3 (ws : List (List AV)) (cs : List (List AV)) (off : Int) : sl6_33 := finL (g6_33 (off, (rev6_1 ws cs off).fst, vev18t_0 Tk.lent Tk.lent (rev6_0 ws cs off).snd.fst (rev6_1 ws cs off).snd.snd, vev18t_0 Tk.lent Tk.lent (rev6_0 ws cs off).snd.snd (rev6_1 ws cs off).snd.snd, vev18t_0 Tk.lent Tk.lent (List.take (Int.toNat (1 : Int)) (List.drop (0 : Nat) (rev6_0 ws cs off).snd.fst)) (rev6_1 ws cs off).snd.snd, (rev6_2 ws cs off).fst)) (n6_33 (off, (rev6_1 ws cs off).fst, vev18t_0 Tk.lent Tk.lent (rev6_0 ws cs off).snd.fst (rev6_1 ws cs off).snd.snd, vev18t_0 Tk.lent Tk.lent (rev6_0 ws cs off).snd.snd (rev6_1 ws cs off).snd.snd, vev18t_0 Tk.lent Tk.lent (List.take (Int.toNat (1 : Int)) (List.drop (0 : Nat) (rev6_0 ws cs off).snd.fst)) (rev6_1 ws cs off).snd.snd, (rev6_2 ws cs off).fst)) (0 : Int)
noncomputable def vev6_0 (ws : List (List AV)) (cs : List (List AV)) (off : Int) : Bool := bif bif decide ((↑ws.length : Int) < (2 : Int)) then true else bif decide ((↑ws.length : Int) > (6 : Int)) then true else decide ((↑cs.length : Int) > (60 : Int)) then bif bif bif bif bif bif true then vev15_0 (vev11_0 (2 : Int)) (vev13_0 (5000000 : Int) (vev11_0 (2 : Int)) (vev7_1 (0 : Int) (vev11_0 (2 : Int)) (0 : Int) (0 : Int) (0 : Int) (6 : Int)) (vev7_2 (0 : Int) (vev11_0 (2 : Int)) (0 : Int) (0 : Int) (0 : Int) (6 : Int)) (vev7_3 (0 : Int) (vev11_0 (2 : Int)) (0 : Int) (0 : Int) (0 : Int) (6 : Int))) (vev7_2 (0 : Int) (vev11_0 (2 : Int)) (0 : Int) (0 : Int) (0 : Int) (6 : Int)) (vev7_3 (0 : Int) (vev11_0 (2 : Int)) (0 : Int) (0 : Int) (0 : Int) (6 : Int)) == (0 : Int) else false then true else false then true else false then true else false then true else false then true else false else bif xc6_5_0 ws cs off (rev6_0 ws cs off).fst (rev6_0 ws cs off).snd.fst (rev6_0 ws cs off).snd.snd then false else bif bif (↑(vev18t_1 Tk.lent Tk.lent (rev6_0 ws cs off).snd.fst (rev6_1 ws cs off).snd.snd).length : Int) != (↑(rev6_1 ws cs off).snd.snd.length : Int) then true else bif (↑(vev18t_1 Tk.lent Tk.lent (rev6_0 ws cs off).snd.snd (rev6_1 ws cs off).snd.snd).length : Int) != (↑(rev6_1 ws cs off).snd.snd.length : Int) then true else bif (↑(vev18t_1 Tk.lent Tk.lent (List.take (Int.toNat (1 : Int)) (List.drop (0 : Nat) (rev6_0 ws cs off).snd.fst)) (rev6_1 ws cs off).snd.snd).length : Int) != (↑(rev6_1 ws cs off).snd.snd.length : Int) then true else bif (↑(vev18t_0 Tk.lent Tk.lent (rev6_0 ws cs off).snd.fst (rev6_1 ws cs off).snd.snd).length : Int) != (↑(rev6_0 ws cs off).snd.fst.length : Int) then true else bif (↑(vev18t_0 Tk.lent Tk.lent (rev6_0 ws cs off).snd.snd (rev6_1 ws cs off).snd.snd).length : Int) != (↑(rev6_0 ws cs off).snd.fst.length : Int) then true else (↑(vev18t_0 Tk.lent Tk.lent (List.take (Int.toNat (1 : Int)) (List.drop (0 : Nat) (rev6_0 ws cs off).snd.fst)) (rev6_1 ws cs off).snd.snd).length : Int) != (1 : Int) then false else bif xc6_27_0 off (rev6_1 ws cs off).fst (vev18t_0 Tk.lent Tk.lent (rev6_0 ws cs off).snd.fst (rev6_1 ws cs off).snd.snd) (vev18t_1 Tk.lent Tk.lent (rev6_0 ws cs off).snd.fst (rev6_1 ws cs off).snd.snd) (vev18t_0 Tk.lent Tk.lent (rev6_0 ws cs off).snd.snd (rev6_1 ws cs off).snd.snd) (vev18t_1 Tk.lent Tk.lent (rev6_0 ws cs off).snd.snd (rev6_1 ws cs off).snd.snd) (vev18t_0 Tk.lent Tk.lent (List.take (Int.toNat (1 : Int)) (List.drop (0 : Nat) (rev6_0 ws cs off).snd.fst)) (rev6_1 ws cs off).snd.snd) (vev18t_1 Tk.lent Tk.lent (List.take (Int.toNat (1 : Int)) (List.drop (0 : Nat) (rev6_0 ws cs off).snd.fst)) (rev6_1 ws cs off).snd.snd) (rev6_2 ws cs off).fst (rev6_2 ws cs off).snd (rev6_1 ws cs off).snd.snd then false else bif xc6_33_0 off (rev6_1 ws cs off).fst (vev18t_0 Tk.lent Tk.lent (rev6_0 ws cs off).snd.fst (rev6_1 ws cs off).snd.snd) (vev18t_0 Tk.lent Tk.lent (rev6_0 ws cs off).snd.snd (rev6_1 ws cs off).snd.snd) (vev18t_0 Tk.lent Tk.lent (List.take (Int.toNat (1 : Int)) (List.drop (0 : Nat) (rev6_0 ws cs off).snd.fst)) (rev6_1 ws cs off).snd.snd) (rev6_2 ws cs off).fst (rev6_3 ws cs off) then false else bif decide ((0 : Int) ≤ (0 : Int)) && decide ((0 : Int) < (↑(vev18t_0 Tk.lent Tk.lent (List.take (Int.toNat (1 : Int)) (List.drop (0 : Nat) (rev6_0 ws cs off).snd.fst)) (rev6_1 ws cs off).snd.snd).length : Int)) then bif intOf (((vev18t_0 Tk.lent Tk.lent (List.take (Int.toNat (1 : Int)) (List.drop (0 : Nat) (rev6_0 ws cs off).snd.fst)) (rev6_1 ws cs off).snd.snd).getD (Int.toNat (0 : Int)) []).getD ((0 : Nat) + (1 : Nat) + (1 : Nat) + (1 : Nat)) AV.junk) == (rev6_2 ws cs off).fst then bif true then bif bif bif bif bif bif true then vev15_0 (vev11_0 (2 : Int)) (vev13_0 (5000000 : Int) (vev11_0 (2 : Int)) (vev7_1 (0 : Int) (vev11_0 (2 : Int)) (0 : Int) (0 : Int) (0 : Int) (6 : Int)) (vev7_2 (0 : Int) (vev11_0 (2 : Int)) (0 : Int) (0 : Int) (0 : Int) (6 : Int)) (vev7_3 (0 : Int) (vev11_0 (2 : Int)) (0 : Int) (0 : Int) (0 : Int) (6 : Int))) (vev7_2 (0 : Int) (vev11_0 (2 : Int)) (0 : Int) (0 : Int) (0 : Int) (6 : Int)) (vev7_3 (0 : Int) (vev11_0 (2 : Int)) (0 : Int) (0 : Int) (0 : Int) (6 : Int)) == (0 : Int) else false then true else false then true else false then true else false then true else false then true else false else false else false else false
noncomputable def vev6_1 (ws : List (List AV)) (cs : List (List AV)) (off : Int) : Bool := bif bif decide ((↑ws.length : Int) < (2 : Int)) then true else bif decide ((↑ws.length : Int) > (6 : Int)) then true else decide ((↑cs.length : Int) > (60 : Int)) then true else bif (spI g6_5 n6_5 y6_5 z6_5 d6_5 ((ws, cs, off), (0 : Int), [], [])).fst then bif xc6_5_0 ws cs off (rev6_0 ws cs off).fst (rev6_0 ws cs off).snd.fst (rev6_0 ws cs off).snd.snd then true else bif (spI g6_16 n6_16 y6_16 z6_16 d6_16 ((cs, off, (rev6_0 ws cs off).snd.fst, (rev6_0 ws cs off).snd.snd), (0 : Int), (0 : Int), [])).fst then bif vev18t_2 Tk.lent Tk.lent (rev6_0 ws cs off).snd.fst (rev6_1 ws cs off).snd.snd then bif vev18t_2 Tk.lent Tk.lent (rev6_0 ws cs off).snd.snd (rev6_1 ws cs off).snd.snd then bif bnd (0 : Int) (1 : Int) (↑(rev6_0 ws cs off).snd.fst.length : Int) then bif vev18t_2 Tk.lent Tk.lent (List.take (Int.toNat (1 : Int)) (List.drop (0 : Nat) (rev6_0 ws cs off).snd.fst)) (rev6_1 ws cs off).snd.snd then bif bif (↑(vev18t_1 Tk.lent Tk.lent (rev6_0 ws cs off).snd.fst (rev6_1 ws cs off).snd.snd).length : Int) != (↑(rev6_1 ws cs off).snd.snd.length : Int) then true else bif (↑(vev18t_1 Tk.lent Tk.lent (rev6_0 ws cs off).snd.snd (rev6_1 ws cs off).snd.snd).length : Int) != (↑(rev6_1 ws cs off).snd.snd.length : Int) then true else bif (↑(vev18t_1 Tk.lent Tk.lent (List.take (Int.toNat (1 : Int)) (List.drop (0 : Nat) (rev6_0 ws cs off).snd.fst)) (rev6_1 ws cs off).snd.snd).length : Int) != (↑(rev6_1 ws cs off).snd.snd.length : Int) then true else bif (↑(vev18t_0 Tk.lent Tk.lent (rev6_0 ws cs off).snd.fst (rev6_1 ws cs off).snd.snd).length : Int) != (↑(rev6_0 ws cs off).snd.fst.length : Int) then true else bif (↑(vev18t_0 Tk.lent Tk.lent (rev6_0 ws cs off).snd.snd (rev6_1 ws cs off).snd.snd).length : Int) != (↑(rev6_0 ws cs off).snd.fst.length : Int) then true else (↑(vev18t_0 Tk.lent Tk.lent (List.take (Int.toNat (1 : Int)) (List.drop (0 : Nat) (rev6_0 ws cs off).snd.fst)) (rev6_1 ws cs off).snd.snd).length : Int) != (1 : Int) then true else bif (spI g6_27 n6_27 y6_27 z6_27 d6_27 ((off, (rev6_1 ws cs off).fst, vev18t_0 Tk.lent Tk.lent (rev6_0 ws cs off).snd.fst (rev6_1 ws cs off).snd.snd, vev18t_1 Tk.lent Tk.lent (rev6_0 ws cs off).snd.fst (rev6_1 ws cs off).snd.snd, vev18t_0 Tk.lent Tk.lent (rev6_0 ws cs off).snd.snd (rev6_1 ws cs off).snd.snd, vev18t_1 Tk.lent Tk.lent (rev6_0 ws cs off).snd.snd (rev6_1 ws cs off).snd.snd, vev18t_0 Tk.lent Tk.lent (List.take (Int.toNat (1 : Int)) (List.drop (0 : Nat) (rev6_0 ws cs off).snd.fst)) (rev6_1 ws cs off).snd.snd, vev18t_1 Tk.lent Tk.lent (List.take (Int.toNat (1 : Int)) (List.drop (0 : Nat) (rev6_0 ws cs off).snd.fst)) (rev6_1 ws cs off).snd.snd, (rev6_1 ws cs off).snd.snd), (0 : Int), (0 : Int))).fst then bif xc6_27_0 off (rev6_1 ws cs off).fst (vev18t_0 Tk.lent Tk.lent (rev6_0 ws cs off).snd.fst (rev6_1 ws cs off).snd.snd) (vev18t_1 Tk.lent Tk.lent (rev6_0 ws cs off).snd.fst (rev6_1 ws cs off).snd.snd) (vev18t_0 Tk.lent Tk.lent (rev6_0 ws cs off).snd.snd (rev6_1 ws cs off).snd.snd) (vev18t_1 Tk.lent Tk.lent (rev6_0 ws cs off).snd.snd (rev6_1 ws cs off).snd.snd) (vev18t_0 Tk.lent Tk.lent (List.take (Int.toNat (1 : Int)) (List.drop (0 : Nat) (rev6_0 ws cs off).snd.fst)) (rev6_1 ws cs off).snd.snd) (vev18t_1 Tk.lent Tk.lent (List.take (Int.toNat (1 : Int)) (List.drop (0 : Nat) (rev6_0 ws cs off).snd.fst)) (rev6_1 ws cs off).snd.snd) (rev6_2 ws cs off).fst (rev6_2 ws cs off).snd (rev6_1 ws cs off).snd.snd then true else bif (spI g6_33 n6_33 y6_33 z6_33 d6_33 ((off, (rev6_1 ws cs off).fst, vev18t_0 Tk.lent Tk.lent (rev6_0 ws cs off).snd.fst (rev6_1 ws cs off).snd.snd, vev18t_0 Tk.lent Tk.lent (rev6_0 ws cs off).snd.snd (rev6_1 ws cs off).snd.snd, vev18t_0 Tk.lent Tk.lent (List.take (Int.toNat (1 : Int)) (List.drop (0 : Nat) (rev6_0 ws cs off).snd.fst)) (rev6_1 ws cs off).snd.snd, (rev6_2 ws cs off).fst), (0 : Int))).fst then bif xc6_33_0 off (rev6_1 ws cs off).fst (vev18t_0 Tk.lent Tk.lent (rev6_0 ws cs off).snd.fst (rev6_1 ws cs off).snd.snd) (vev18t_0 Tk.lent Tk.lent (rev6_0 ws cs off).snd.snd (rev6_1 ws cs off).snd.snd) (vev18t_0 Tk.lent Tk.lent (List.take (Int.toNat (1 : Int)) (List.drop (0 : Nat) (rev6_0 ws cs off).snd.fst)) (rev6_1 ws cs off).snd.snd) (rev6_2 ws cs off).fst (rev6_3 ws cs off) then true else bif decide ((0 : Int) ≤ (0 : Int)) && decide ((0 : Int) < (↑(vev18t_0 Tk.lent Tk.lent (List.take (Int.toNat (1 : Int)) (List.drop (0 : Nat) (rev6_0 ws cs off).snd.fst)) (rev6_1 ws cs off).snd.snd).length : Int)) then true else false else false else false else false else false else false else false else false else false
theorem ev6 (ws : List (List AV)) (cs : List (List AV)) (off : Int) : evFun (cfg Try.prog tab 100000 (gk k18t 30) lsp6 6 ([] : List Blk).length Try.f6.ntmps) Try.f6 [.sl .imm [.int .u8] ws, .sl .imm [.int .u16] cs, .int .u32 off] [] = bif vev6_1 ws cs off then some (AV.bool (vev6_0 ws cs off), []) else none := by
  have h : evFun (cfg Try.prog tab 100000 (gk k18t 30) lsp6 6 ([] : List Blk).length Try.f6.ntmps) Try.f6 [.sl .imm [.int .u8] ws, .sl .imm [.int .u16] cs, .int .u32 off] [] = bif bif decide ((↑ws.length : Int) < (2 : Int)) then true else bif bif false then true else decide ((↑ws.length : Int) > (6 : Int)) then true else true then bif bif decide ((↑ws.length : Int) < (2 : Int)) then true else bif bif false then true else decide ((↑ws.length : Int) > (6 : Int)) then true else bif false then true else decide ((↑cs.length : Int) > (60 : Int)) then some (AV.bool (bif bif bif bif bif bif true then vev15_0 (vev11_0 (2 : Int)) (vev13_0 (5000000 : Int) (vev11_0 (2 : Int)) (vev7_1 (0 : Int) (vev11_0 (2 : Int)) (0 : Int) (0 : Int) (0 : Int) (6 : Int)) (vev7_2 (0 : Int) (vev11_0 (2 : Int)) (0 : Int) (0 : Int) (0 : Int) (6 : Int)) (vev7_3 (0 : Int) (vev11_0 (2 : Int)) (0 : Int) (0 : Int) (0 : Int) (6 : Int))) (vev7_2 (0 : Int) (vev11_0 (2 : Int)) (0 : Int) (0 : Int) (0 : Int) (6 : Int)) (vev7_3 (0 : Int) (vev11_0 (2 : Int)) (0 : Int) (0 : Int) (0 : Int) (6 : Int)) == (0 : Int) else false then true else false then true else false then true else false then true else false then true else false), []) else bif (spI g6_5 n6_5 y6_5 z6_5 d6_5 ((ws, cs, off), (0 : Int), [], [])).fst then bif xc6_5_0 ws cs off (rev6_0 ws cs off).fst (rev6_0 ws cs off).snd.fst (rev6_0 ws cs off).snd.snd then some (AV.bool false, []) else bif (spI g6_16 n6_16 y6_16 z6_16 d6_16 ((cs, off, (rev6_0 ws cs off).snd.fst, (rev6_0 ws cs off).snd.snd), (0 : Int), (0 : Int), [])).fst then bif vev18t_2 Tk.lent Tk.lent (rev6_0 ws cs off).snd.fst (rev6_1 ws cs off).snd.snd then bif vev18t_2 Tk.lent Tk.lent (rev6_0 ws cs off).snd.snd (rev6_1 ws cs off).snd.snd then bif bnd (0 : Int) (1 : Int) (↑(rev6_0 ws cs off).snd.fst.length : Int) then bif vev18t_2 Tk.lent Tk.lent (List.take (Int.toNat (1 : Int)) (List.drop (0 : Nat) (rev6_0 ws cs off).snd.fst)) (rev6_1 ws cs off).snd.snd then bif bif (↑(vev18t_1 Tk.lent Tk.lent (rev6_0 ws cs off).snd.fst (rev6_1 ws cs off).snd.snd).length : Int) != (↑(rev6_1 ws cs off).snd.snd.length : Int) then true else bif bif false then true else (↑(vev18t_1 Tk.lent Tk.lent (rev6_0 ws cs off).snd.snd (rev6_1 ws cs off).snd.snd).length : Int) != (↑(rev6_1 ws cs off).snd.snd.length : Int) then true else bif bif false then true else (↑(vev18t_1 Tk.lent Tk.lent (List.take (Int.toNat (1 : Int)) (List.drop (0 : Nat) (rev6_0 ws cs off).snd.fst)) (rev6_1 ws cs off).snd.snd).length : Int) != (↑(rev6_1 ws cs off).snd.snd.length : Int) then true else bif bif false then true else (↑(vev18t_0 Tk.lent Tk.lent (rev6_0 ws cs off).snd.fst (rev6_1 ws cs off).snd.snd).length : Int) != (↑(rev6_0 ws cs off).snd.fst.length : Int) then true else bif bif false then true else (↑(vev18t_0 Tk.lent Tk.lent (rev6_0 ws cs off).snd.snd (rev6_1 ws cs off).snd.snd).length : Int) != (↑(rev6_0 ws cs off).snd.fst.length : Int) then true else true then bif bif (↑(vev18t_1 Tk.lent Tk.lent (rev6_0 ws cs off).snd.fst (rev6_1 ws cs off).snd.snd).length : Int) != (↑(rev6_1 ws cs off).snd.snd.length : Int) then true else bif bif false then true else (↑(vev18t_1 Tk.lent Tk.lent (rev6_0 ws cs off).snd.snd (rev6_1 ws cs off).snd.snd).length : Int) != (↑(rev6_1 ws cs off).snd.snd.length : Int) then true else bif bif false then true else (↑(vev18t_1 Tk.lent Tk.lent (List.take (Int.toNat (1 : Int)) (List.drop (0 : Nat) (rev6_0 ws cs off).snd.fst)) (rev6_1 ws cs off).snd.snd).length : Int) != (↑(rev6_1 ws cs off).snd.snd.length : Int) then true else bif bif false then true else (↑(vev18t_0 Tk.lent Tk.lent (rev6_0 ws cs off).snd.fst (rev6_1 ws cs off).snd.snd).length : Int) != (↑(rev6_0 ws cs off).snd.fst.length : Int) then true else bif bif false then true else (↑(vev18t_0 Tk.lent Tk.lent (rev6_0 ws cs off).snd.snd (rev6_1 ws cs off).snd.snd).length : Int) != (↑(rev6_0 ws cs off).snd.fst.length : Int) then true else bif false then true else (↑(vev18t_0 Tk.lent Tk.lent (List.take (Int.toNat (1 : Int)) (List.drop (0 : Nat) (rev6_0 ws cs off).snd.fst)) (rev6_1 ws cs off).snd.snd).length : Int) != (1 : Int) then some (AV.bool false, []) else bif (spI g6_27 n6_27 y6_27 z6_27 d6_27 ((off, (rev6_1 ws cs off).fst, vev18t_0 Tk.lent Tk.lent (rev6_0 ws cs off).snd.fst (rev6_1 ws cs off).snd.snd, vev18t_1 Tk.lent Tk.lent (rev6_0 ws cs off).snd.fst (rev6_1 ws cs off).snd.snd, vev18t_0 Tk.lent Tk.lent (rev6_0 ws cs off).snd.snd (rev6_1 ws cs off).snd.snd, vev18t_1 Tk.lent Tk.lent (rev6_0 ws cs off).snd.snd (rev6_1 ws cs off).snd.snd, vev18t_0 Tk.lent Tk.lent (List.take (Int.toNat (1 : Int)) (List.drop (0 : Nat) (rev6_0 ws cs off).snd.fst)) (rev6_1 ws cs off).snd.snd, vev18t_1 Tk.lent Tk.lent (List.take (Int.toNat (1 : Int)) (List.drop (0 : Nat) (rev6_0 ws cs off).snd.fst)) (rev6_1 ws cs off).snd.snd, (rev6_1 ws cs off).snd.snd), (0 : Int), (0 : Int))).fst then bif xc6_27_0 off (rev6_1 ws cs off).fst (vev18t_0 Tk.lent Tk.lent (rev6_0 ws cs off).snd.fst (rev6_1 ws cs off).snd.snd) (vev18t_1 Tk.lent Tk.lent (rev6_0 ws cs off).snd.fst (rev6_1 ws cs off).snd.snd) (vev18t_0 Tk.lent Tk.lent (rev6_0 ws cs off).snd.snd (rev6_1 ws cs off).snd.snd) (vev18t_1 Tk.lent Tk.lent (rev6_0 ws cs off).snd.snd (rev6_1 ws cs off).snd.snd) (vev18t_0 Tk.lent Tk.lent (List.take (Int.toNat (1 : Int)) (List.drop (0 : Nat) (rev6_0 ws cs off).snd.fst)) (rev6_1 ws cs off).snd.snd) (vev18t_1 Tk.lent Tk.lent (List.take (Int.toNat (1 : Int)) (List.drop (0 : Nat) (rev6_0 ws cs off).snd.fst)) (rev6_1 ws cs off).snd.snd) (rev6_2 ws cs off).fst (rev6_2 ws cs off).snd (rev6_1 ws cs off).snd.snd then some (AV.bool false, []) else bif (spI g6_33 n6_33 y6_33 z6_33 d6_33 ((off, (rev6_1 ws cs off).fst, vev18t_0 Tk.lent Tk.lent (rev6_0 ws cs off).snd.fst (rev6_1 ws cs off).snd.snd, vev18t_0 Tk.lent Tk.lent (rev6_0 ws cs off).snd.snd (rev6_1 ws cs off).snd.snd, vev18t_0 Tk.lent Tk.lent (List.take (Int.toNat (1 : Int)) (List.drop (0 : Nat) (rev6_0 ws cs off).snd.fst)) (rev6_1 ws cs off).snd.snd, (rev6_2 ws cs off).fst), (0 : Int))).fst then bif xc6_33_0 off (rev6_1 ws cs off).fst (vev18t_0 Tk.lent Tk.lent (rev6_0 ws cs off).snd.fst (rev6_1 ws cs off).snd.snd) (vev18t_0 Tk.lent Tk.lent (rev6_0 ws cs off).snd.snd (rev6_1 ws cs off).snd.snd) (vev18t_0 Tk.lent Tk.lent (List.take (Int.toNat (1 : Int)) (List.drop (0 : Nat) (rev6_0 ws cs off).snd.fst)) (rev6_1 ws cs off).snd.snd) (rev6_2 ws cs off).fst (rev6_3 ws cs off) then some (AV.bool false, []) else bif bif decide ((0 : Int) ≤ (0 : Int)) && decide ((0 : Int) < (↑(vev18t_0 Tk.lent Tk.lent (List.take (Int.toNat (1 : Int)) (List.drop (0 : Nat) (rev6_0 ws cs off).snd.fst)) (rev6_1 ws cs off).snd.snd).length : Int)) then bif intOf (((vev18t_0 Tk.lent Tk.lent (List.take (Int.toNat (1 : Int)) (List.drop (0 : Nat) (rev6_0 ws cs off).snd.fst)) (rev6_1 ws cs off).snd.snd).getD (Int.toNat (0 : Int)) []).getD ((0 : Nat) + (1 : Nat) + (1 : Nat) + (1 : Nat)) AV.junk) == (rev6_2 ws cs off).fst then true else true else false then some (AV.bool (bif decide ((0 : Int) ≤ (0 : Int)) && decide ((0 : Int) < (↑(vev18t_0 Tk.lent Tk.lent (List.take (Int.toNat (1 : Int)) (List.drop (0 : Nat) (rev6_0 ws cs off).snd.fst)) (rev6_1 ws cs off).snd.snd).length : Int)) then bif intOf (((vev18t_0 Tk.lent Tk.lent (List.take (Int.toNat (1 : Int)) (List.drop (0 : Nat) (rev6_0 ws cs off).snd.fst)) (rev6_1 ws cs off).snd.snd).getD (Int.toNat (0 : Int)) []).getD ((0 : Nat) + (1 : Nat) + (1 : Nat) + (1 : Nat)) AV.junk) == (rev6_2 ws cs off).fst then bif true then bif bif bif bif bif bif true then vev15_0 (vev11_0 (2 : Int)) (vev13_0 (5000000 : Int) (vev11_0 (2 : Int)) (vev7_1 (0 : Int) (vev11_0 (2 : Int)) (0 : Int) (0 : Int) (0 : Int) (6 : Int)) (vev7_2 (0 : Int) (vev11_0 (2 : Int)) (0 : Int) (0 : Int) (0 : Int) (6 : Int)) (vev7_3 (0 : Int) (vev11_0 (2 : Int)) (0 : Int) (0 : Int) (0 : Int) (6 : Int))) (vev7_2 (0 : Int) (vev11_0 (2 : Int)) (0 : Int) (0 : Int) (0 : Int) (6 : Int)) (vev7_3 (0 : Int) (vev11_0 (2 : Int)) (0 : Int) (0 : Int) (0 : Int) (6 : Int)) == (0 : Int) else false then true else false then true else false then true else false then true else false then true else false else false else false else false), []) else none else none else none else none else none else none else none else none else none else none else none := by kernel_rfl
  rw [h]
  clear h
  unfold vev6_0 vev6_1
  generalize ((spI g6_27 n6_27 y6_27 z6_27 d6_27 ((off, (rev6_1 ws cs off).fst, vev18t_0 Tk.lent Tk.lent (rev6_0 ws cs off).snd.fst (rev6_1 ws cs off).snd.snd, vev18t_1 Tk.lent Tk.lent (rev6_0 ws cs off).snd.fst (rev6_1 ws cs off).snd.snd, vev18t_0 Tk.lent Tk.lent (rev6_0 ws cs off).snd.snd (rev6_1 ws cs off).snd.snd, vev18t_1 Tk.lent Tk.lent (rev6_0 ws cs off).snd.snd (rev6_1 ws cs off).snd.snd, vev18t_0 Tk.lent Tk.lent (List.take (Int.toNat (1 : Int)) (List.drop (0 : Nat) (rev6_0 ws cs off).snd.fst)) (rev6_1 ws cs off).snd.snd, vev18t_1 Tk.lent Tk.lent (List.take (Int.toNat (1 : Int)) (List.drop (0 : Nat) (rev6_0 ws cs off).snd.fst)) (rev6_1 ws cs off).snd.snd, (rev6_1 ws cs off).snd.snd), (0 : Int), (0 : Int))).fst) = c0
  generalize (xc6_27_0 off (rev6_1 ws cs off).fst (vev18t_0 Tk.lent Tk.lent (rev6_0 ws cs off).snd.fst (rev6_1 ws cs off).snd.snd) (vev18t_1 Tk.lent Tk.lent (rev6_0 ws cs off).snd.fst (rev6_1 ws cs off).snd.snd) (vev18t_0 Tk.lent Tk.lent (rev6_0 ws cs off).snd.snd (rev6_1 ws cs off).snd.snd) (vev18t_1 Tk.lent Tk.lent (rev6_0 ws cs off).snd.snd (rev6_1 ws cs off).snd.snd) (vev18t_0 Tk.lent Tk.lent (List.take (Int.toNat (1 : Int)) (List.drop (0 : Nat) (rev6_0 ws cs off).snd.fst)) (rev6_1 ws cs off).snd.snd) (vev18t_1 Tk.lent Tk.lent (List.take (Int.toNat (1 : Int)) (List.drop (0 : Nat) (rev6_0 ws cs off).snd.fst)) (rev6_1 ws cs off).snd.snd) (rev6_2 ws cs off).fst (rev6_2 ws cs off).snd (rev6_1 ws cs off).snd.snd) = c1
  generalize ((spI g6_33 n6_33 y6_33 z6_33 d6_33 ((off, (rev6_1 ws cs off).fst, vev18t_0 Tk.lent Tk.lent (rev6_0 ws cs off).snd.fst (rev6_1 ws cs off).snd.snd, vev18t_0 Tk.lent Tk.lent (rev6_0 ws cs off).snd.snd (rev6_1 ws cs off).snd.snd, vev18t_0 Tk.lent Tk.lent (List.take (Int.toNat (1 : Int)) (List.drop (0 : Nat) (rev6_0 ws cs off).snd.fst)) (rev6_1 ws cs off).snd.snd, (rev6_2 ws cs off).fst), (0 : Int))).fst) = c2
  generalize (decide ((0 : Int) ≤ (0 : Int)) && decide ((0 : Int) < (↑(vev18t_0 Tk.lent Tk.lent (List.take (Int.toNat (1 : Int)) (List.drop (0 : Nat) (rev6_0 ws cs off).snd.fst)) (rev6_1 ws cs off).snd.snd).length : Int))) = c3
  generalize (xc6_33_0 off (rev6_1 ws cs off).fst (vev18t_0 Tk.lent Tk.lent (rev6_0 ws cs off).snd.fst (rev6_1 ws cs off).snd.snd) (vev18t_0 Tk.lent Tk.lent (rev6_0 ws cs off).snd.snd (rev6_1 ws cs off).snd.snd) (vev18t_0 Tk.lent Tk.lent (List.take (Int.toNat (1 : Int)) (List.drop (0 : Nat) (rev6_0 ws cs off).snd.fst)) (rev6_1 ws cs off).snd.snd) (rev6_2 ws cs off).fst (rev6_3 ws cs off)) = c4
  generalize ((spI g6_16 n6_16 y6_16 z6_16 d6_16 ((cs, off, (rev6_0 ws cs off).snd.fst, (rev6_0 ws cs off).snd.snd), (0 : Int), (0 : Int), [])).fst) = c5
  generalize (intOf (((vev18t_0 Tk.lent Tk.lent (List.take (Int.toNat (1 : Int)) (List.drop (0 : Nat) (rev6_0 ws cs off).snd.fst)) (rev6_1 ws cs off).snd.snd).getD (Int.toNat (0 : Int)) []).getD ((0 : Nat) + (1 : Nat) + (1 : Nat) + (1 : Nat)) AV.junk) == (rev6_2 ws cs off).fst) = c6
  generalize ((↑(vev18t_1 Tk.lent Tk.lent (List.take (Int.toNat (1 : Int)) (List.drop (0 : Nat) (rev6_0 ws cs off).snd.fst)) (rev6_1 ws cs off).snd.snd).length : Int) != (↑(rev6_1 ws cs off).snd.snd.length : Int)) = c7
  generalize ((↑(vev18t_0 Tk.lent Tk.lent (rev6_0 ws cs off).snd.snd (rev6_1 ws cs off).snd.snd).length : Int) != (↑(rev6_0 ws cs off).snd.fst.length : Int)) = c8
  generalize ((↑(vev18t_0 Tk.lent Tk.lent (rev6_0 ws cs off).snd.fst (rev6_1 ws cs off).snd.snd).length : Int) != (↑(rev6_0 ws cs off).snd.fst.length : Int)) = c9
  generalize ((spI g6_5 n6_5 y6_5 z6_5 d6_5 ((ws, cs, off), (0 : Int), [], [])).fst) = c10
  generalize ((↑(vev18t_1 Tk.lent Tk.lent (rev6_0 ws cs off).snd.fst (rev6_1 ws cs off).snd.snd).length : Int) != (↑(rev6_1 ws cs off).snd.snd.length : Int)) = c11
  generalize ((↑(vev18t_0 Tk.lent Tk.lent (List.take (Int.toNat (1 : Int)) (List.drop (0 : Nat) (rev6_0 ws cs off).snd.fst)) (rev6_1 ws cs off).snd.snd).length : Int) != (1 : Int)) = c12
  generalize ((↑(vev18t_1 Tk.lent Tk.lent (rev6_0 ws cs off).snd.snd (rev6_1 ws cs off).snd.snd).length : Int) != (↑(rev6_1 ws cs off).snd.snd.length : Int)) = c13
  generalize (xc6_5_0 ws cs off (rev6_0 ws cs off).fst (rev6_0 ws cs off).snd.fst (rev6_0 ws cs off).snd.snd) = c14
  generalize (vev18t_2 Tk.lent Tk.lent (List.take (Int.toNat (1 : Int)) (List.drop (0 : Nat) (rev6_0 ws cs off).snd.fst)) (rev6_1 ws cs off).snd.snd) = c15
  generalize (vev18t_2 Tk.lent Tk.lent (rev6_0 ws cs off).snd.fst (rev6_1 ws cs off).snd.snd) = c16
  generalize (vev18t_2 Tk.lent Tk.lent (rev6_0 ws cs off).snd.snd (rev6_1 ws cs off).snd.snd) = c17
  generalize (bnd (0 : Int) (1 : Int) (↑(rev6_0 ws cs off).snd.fst.length : Int)) = c18
  generalize (decide ((↑ws.length : Int) > (6 : Int))) = c19
  generalize (decide ((↑cs.length : Int) > (60 : Int))) = c20
  generalize (decide ((↑ws.length : Int) < (2 : Int))) = c21
  cases c21
  · skip
    cases c19
    · skip
      cases c20
      · skip
        cases c10
        · skip
          rfl
        · skip
          cases c14
          · skip
            cases c5
            · skip
              rfl
            · skip
              cases c16
              · skip
                rfl
              · skip
                cases c17
                · skip
                  rfl
                · skip
                  cases c18
                  · skip
                    rfl
                  · skip
                    cases c15
                    · skip
                      rfl
                    · skip
                      cases c11
                      · skip
                        cases c13
                        · skip
                          cases c7
                          · skip
                            cases c9
                            · skip
                              cases c8
                              · skip
                                cases c12
                                · skip
                                  cases c0
                                  · skip
                                    rfl
                                  · skip
                                    cases c1
                                    · skip
                                      cases c2
                                      · skip
                                        rfl
                                      · skip
                                        cases c4
                                        · skip
                                          cases c3
                                          · skip
                                            rfl
                                          · skip
                                            cases c6
                                            · skip
                                              rfl
                                            · skip
                                              rfl
                                        · skip
                                          rfl
                                    · skip
                                      rfl
                                · skip
                                  rfl
                              · skip
                                rfl
                            · skip
                              rfl
                          · skip
                            rfl
                        · skip
                          rfl
                      · skip
                        rfl
          · skip
            rfl
      · skip
        rfl
    · skip
      rfl
  · skip
    rfl
-- spec vev6_1 ws cs off ;; (AV.bool (vev6_0 ws cs off), [])
-- law 6: loops loops6 gam k18t
end Go.Proofs.Gv
