import Derived.Test.YtjbohlgfhfehdaaGt
import Derived.KernelRfl
import Derived.Test.YtjbohlgfhfehdaaGwF
import Derived.Test.YtjbohlgfhfehdaaGxJ
import Derived.Test.YtjbohlgfhfehdaaGaHp3
namespace Go.Proofs.Gv
open Go.Proofs
set_option linter.unusedVariables false
noncomputable def rn5_5_0 (t0 : List (List AV)) (t3 : List (List AV)) (t4 : Int) : Int := intOf ((t0.getD t4.toNat []).getD (0 : Nat) AV.junk)
noncomputable def rn5_5_1 (t0 : List (List AV)) (t3 : List (List AV)) (t4 : Int) : Int := intOf ((t0.getD t4.toNat []).getD ((0 : Nat) + (1 : Nat)) AV.junk)
noncomputable def rn5_5_2 (t0 : List (List AV)) (t3 : List (List AV)) (t4 : Int) : List (List AV) := vev17_0 Tk.imm t3 (rn5_5_0 t0 t3 t4) (rn5_5_1 t0 t3 t4)
noncomputable def rn5_5_3 (t0 : List (List AV)) (t3 : List (List AV)) (t4 : Int) : Int := IntKind.i64.wrap (t4 + (1 : Int))
noncomputable def go5_5 (t0 : List (List AV)) (t3 : List (List AV)) (t4 : Int) : Bool := bif decide (t4 < (↑t0.length : Int)) then bif decide ((0 : Int) ≤ t4) && decide (t4 < (↑t0.length : Int)) then bif vev17_1 Tk.imm t3 (rn5_5_0 t0 t3 t4) (rn5_5_1 t0 t3 t4) then bif vev13_1 Tk.imm (rn5_5_2 t0 t3 t4) then bif bif vev13_1 Tk.imm (rn5_5_2 t0 t3 t4) then bif vev13_0 Tk.imm (rn5_5_2 t0 t3 t4) != (0 : Int) then true else (↑(rn5_5_2 t0 t3 t4).length : Int) != rn5_5_3 t0 t3 t4 else false then false else true else false else false else false else false
noncomputable def xc5_5_0 (t0 : List (List AV)) (t3 : List (List AV)) (t4 : Int) : Bool := bif decide (t4 < (↑t0.length : Int)) then bif decide ((0 : Int) ≤ t4) && decide (t4 < (↑t0.length : Int)) then bif vev17_1 Tk.imm t3 (rn5_5_0 t0 t3 t4) (rn5_5_1 t0 t3 t4) then bif vev13_1 Tk.imm (rn5_5_2 t0 t3 t4) then bif vev13_1 Tk.imm (rn5_5_2 t0 t3 t4) then bif vev13_0 Tk.imm (rn5_5_2 t0 t3 t4) != (0 : Int) then true else (↑(rn5_5_2 t0 t3 t4).length : Int) != rn5_5_3 t0 t3 t4 else false else false else false else false else false
noncomputable def xc5_5_1 (t0 : List (List AV)) (t3 : List (List AV)) (t4 : Int) : Bool := bif decide (t4 < (↑t0.length : Int)) then false else true
theorem rd5_5 (rest : Lsp) (t0 : List (List AV)) (t3 : List (List AV)) (t4 : Int) : roundV (cfg Try.prog tab 100000 (gk k9 30) rest 5 0 Try.f5.ntmps) (loopAt Try.f5 5) [0, 3, 4] [] [0, 2, 3] [] [AV.sl Tk.imm [Kd.int IntKind.i64, Kd.int IntKind.i64] t0, AV.sl Tk.imm [Kd.int IntKind.i64, Kd.int IntKind.i64] t3, AV.int IntKind.i64 t4] [] = bif go5_5 t0 t3 t4 then some (Ex.norm, [AV.sl Tk.imm [Kd.int IntKind.i64, Kd.int IntKind.i64] t0, AV.sl Tk.imm [Kd.int IntKind.i64, Kd.int IntKind.i64] (rn5_5_2 t0 t3 t4), AV.int IntKind.i64 (rn5_5_3 t0 t3 t4)], []) else bif xc5_5_0 t0 t3 t4 then some (Ex.ret, [AV.sl Tk.imm [Kd.int IntKind.i64, Kd.int IntKind.i64] t0, AV.bool false, AV.sl Tk.imm [Kd.int IntKind.i64, Kd.int IntKind.i64] (rn5_5_2 t0 t3 t4)], []) else bif xc5_5_1 t0 t3 t4 then some (Ex.exit (nat_lit 0), [AV.sl Tk.imm [Kd.int IntKind.i64, Kd.int IntKind.i64] t0, AV.junk, AV.sl Tk.imm [Kd.int IntKind.i64, Kd.int IntKind.i64] t3], []) else none := by
  have h : roundV (cfg Try.prog tab 100000 (gk k9 30) rest 5 0 Try.f5.ntmps) (loopAt Try.f5 5) [0, 3, 4] [] [0, 2, 3] [] [AV.sl Tk.imm [Kd.int IntKind.i64, Kd.int IntKind.i64] t0, AV.sl Tk.imm [Kd.int IntKind.i64, Kd.int IntKind.i64] t3, AV.int IntKind.i64 t4] [] = bif decide (t4 < (↑t0.length : Int)) then bif decide ((0 : Int) ≤ t4) && decide (t4 < (↑t0.length : Int)) then bif vev17_1 Tk.imm t3 (rn5_5_0 t0 t3 t4) (rn5_5_1 t0 t3 t4) then bif bif vev13_1 Tk.imm (rn5_5_2 t0 t3 t4) then bif vev13_0 Tk.imm (rn5_5_2 t0 t3 t4) != (0 : Int) then true else true else false then bif bif vev13_1 Tk.imm (rn5_5_2 t0 t3 t4) then bif vev13_0 Tk.imm (rn5_5_2 t0 t3 t4) != (0 : Int) then true else bif false then true else (↑(rn5_5_2 t0 t3 t4).length : Int) != rn5_5_3 t0 t3 t4 else false then some (Ex.ret, [AV.sl Tk.imm [Kd.int IntKind.i64, Kd.int IntKind.i64] t0, AV.bool false, AV.sl Tk.imm [Kd.int IntKind.i64, Kd.int IntKind.i64] (rn5_5_2 t0 t3 t4)], []) else some (Ex.norm, [AV.sl Tk.imm [Kd.int IntKind.i64, Kd.int IntKind.i64] t0, AV.sl Tk.imm [Kd.int IntKind.i64, Kd.int IntKind.i64] (rn5_5_2 t0 t3 t4), AV.int IntKind.i64 (rn5_5_3 t0 t3 t4)], []) else none else none else none else some (Ex.exit (nat_lit 0), [AV.sl Tk.imm [Kd.int IntKind.i64, Kd.int IntKind.i64] t0, AV.junk, AV.sl Tk.imm [Kd.int IntKind.i64, Kd.int IntKind.i64] t3], []) := by kernel_rfl
  rw [h]
  clear h
  unfold go5_5 xc5_5_0 xc5_5_1
  generalize (decide ((0 : Int) ≤ t4) && decide (t4 < (↑t0.length : Int))) = c0
  generalize (decide (t4 < (↑t0.length : Int))) = c1
  generalize ((↑(rn5_5_2 t0 t3 t4).length : Int) != rn5_5_3 t0 t3 t4) = c2
  generalize (vev13_0 Tk.imm (rn5_5_2 t0 t3 t4) != (0 : Int)) = c3
  generalize (vev17_1 Tk.imm t3 (rn5_5_0 t0 t3 t4) (rn5_5_1 t0 t3 t4)) = c4
  generalize (vev13_1 Tk.imm (rn5_5_2 t0 t3 t4)) = c5
  cases c1
  · skip
    rfl
  · skip
    cases c0
    · skip
      rfl
    · skip
      cases c4
      · skip
        rfl
      · skip
        cases c5
        · skip
          rfl
        · skip
          cases c3
          · skip
            cases c2
            · skip
              rfl
            · skip
              rfl
          · skip
            rfl
abbrev pl5_5 : Type := (List (List AV))
abbrev sl5_5 : Type := (List (List AV)) × Int
noncomputable def vt5_5 (a : pl5_5 × sl5_5) : List AV := [AV.sl Tk.imm [Kd.int IntKind.i64, Kd.int IntKind.i64] a.1, AV.sl Tk.imm [Kd.int IntKind.i64, Kd.int IntKind.i64] a.2.1, AV.int IntKind.i64 a.2.2]
noncomputable def vc5_5 (a : pl5_5 × sl5_5) : List Blk := []
noncomputable def de5_5 (vt : List AV) (vc : List Blk) : Option (pl5_5 × sl5_5) :=
  match vt with
  | [qa0, qa1, qa2] => (match vc with
  | [] => (match qa0 with
  | AV.sl Tk.imm [Kd.int IntKind.i64, Kd.int IntKind.i64] t0 => (match qa1 with
  | AV.sl Tk.imm [Kd.int IntKind.i64, Kd.int IntKind.i64] t3 => (match qa2 with
  | AV.int IntKind.i64 t4 => (some (t0, (t3, t4)))
  | _ => none)
  | _ => none)
  | _ => none)
  | _ => none)
  | _ => none
theorem de5_5_ok (vt : List AV) (vc : List Blk) (a : pl5_5 × sl5_5) (h : de5_5 vt vc = some a) : vt = vt5_5 a ∧ vc = vc5_5 a := by
  unfold de5_5 at h
  split at h
  rotate_left
  · cases h
  split at h
  rotate_left
  · cases h
  split at h
  rotate_left
  · cases h
  split at h
  rotate_left
  · cases h
  split at h
  rotate_left
  · cases h
  injection h with h
  subst h
  exact ⟨rfl, rfl⟩
noncomputable def g5_5 (p : pl5_5) (s : sl5_5) : Bool := go5_5 p s.1 s.2
noncomputable def n5_5 (p : pl5_5) (s : sl5_5) : sl5_5 := (rn5_5_2 p s.1 s.2, rn5_5_3 p s.1 s.2)
noncomputable def y5_5 (p : pl5_5) (s : sl5_5) : List (Bool × Out) := [(xc5_5_0 p s.1 s.2, (Ex.ret, [AV.sl Tk.imm [Kd.int IntKind.i64, Kd.int IntKind.i64] p, AV.bool false, AV.sl Tk.imm [Kd.int IntKind.i64, Kd.int IntKind.i64] (rn5_5_2 p s.1 s.2)], []))]
noncomputable def z5_5 (p : pl5_5) (s : sl5_5) : Bool := xc5_5_1 p s.1 s.2
noncomputable def d5_5 (p : pl5_5) (s : sl5_5) : Out := (Ex.exit (nat_lit 0), [AV.sl Tk.imm [Kd.int IntKind.i64, Kd.int IntKind.i64] p, AV.junk, AV.sl Tk.imm [Kd.int IntKind.i64, Kd.int IntKind.i64] s.1], [])
noncomputable def ls5_5 : St → Option (Bool × List (Bool × Ex × St) × Ex × St) := lspOf [0, 3, 4] [] [0, 2, 3] [] Try.f5.ntmps (0 + tab.nid 5) de5_5 (spI g5_5 n5_5 y5_5 z5_5 d5_5)
theorem lo5_5 (rest : Lsp) : LoopOK1 (cfg Try.prog tab 100000 (gk k9 30) (selL 5 ls5_5 rest) 5 0 Try.f5.ntmps) (loopAt Try.f5 5) := LoopOK1.iter (i := 5) (by kernel_rfl) [0, 3, 4] [] [0, 2, 3] [] vt5_5 vc5_5 de5_5 g5_5 n5_5 y5_5 z5_5 d5_5 (fun _ => rfl) de5_5_ok (fun p s => rd5_5 (selL 5 ls5_5 rest) p (s.1) (s.2)) (fun _ _ => rfl)
noncomputable def go5_12 (t3 : List (List AV)) (t5 : List (List AV)) (t6 : Int) : Bool := bif decide (t6 < (↑t5.length : Int)) then bif vev18_4 Tk.imm t3 then bif bif !vev18_3 Tk.imm t3 then true else bif decide ((0 : Int) ≤ t6) && decide (t6 < (↑t5.length : Int)) then bif !(vev18_1 Tk.imm t3 == intOf ((t5.getD t6.toNat []).getD (0 : Nat) AV.junk) && (vev18_2 Tk.imm t3 == intOf ((t5.getD t6.toNat []).getD ((0 : Nat) + (1 : Nat)) AV.junk) && true)) then true else vev13_1 Tk.imm (vev18_0 Tk.imm t3) else false then bif bif !vev18_3 Tk.imm t3 then true else bif decide ((0 : Int) ≤ t6) && decide (t6 < (↑t5.length : Int)) then bif !(vev18_1 Tk.imm t3 == intOf ((t5.getD t6.toNat []).getD (0 : Nat) AV.junk) && (vev18_2 Tk.imm t3 == intOf ((t5.getD t6.toNat []).getD ((0 : Nat) + (1 : Nat)) AV.junk) && true)) then true else bif vev13_1 Tk.imm (vev18_0 Tk.imm t3) then bif vev13_0 Tk.imm (vev18_0 Tk.imm t3) != (0 : Int) then true else (↑(vev18_0 Tk.imm t3).length : Int) != IntKind.i64.wrap ((↑t3.length : Int) - (1 : Int)) else false else false then false else true else false else false else false
noncomputable def nx5_12_2 (t3 : List (List AV)) (t5 : List (List AV)) (t6 : Int) : Int := IntKind.i64.wrap (t6 + (1 : Int))
noncomputable def xc5_12_0 (t3 : List (List AV)) (t5 : List (List AV)) (t6 : Int) : Bool := bif decide (t6 < (↑t5.length : Int)) then bif vev18_4 Tk.imm t3 then bif bif !vev18_3 Tk.imm t3 then true else bif decide ((0 : Int) ≤ t6) && decide (t6 < (↑t5.length : Int)) then bif !(vev18_1 Tk.imm t3 == intOf ((t5.getD t6.toNat []).getD (0 : Nat) AV.junk) && (vev18_2 Tk.imm t3 == intOf ((t5.getD t6.toNat []).getD ((0 : Nat) + (1 : Nat)) AV.junk) && true)) then true else vev13_1 Tk.imm (vev18_0 Tk.imm t3) else false then bif !vev18_3 Tk.imm t3 then true else bif decide ((0 : Int) ≤ t6) && decide (t6 < (↑t5.length : Int)) then bif !(vev18_1 Tk.imm t3 == intOf ((t5.getD t6.toNat []).getD (0 : Nat) AV.junk) && (vev18_2 Tk.imm t3 == intOf ((t5.getD t6.toNat []).getD ((0 : Nat) + (1 : Nat)) AV.junk) && true)) then true else bif vev13_1 Tk.imm (vev18_0 Tk.imm t3) then bif vev13_0 Tk.imm (vev18_0 Tk.imm t3) != (0 : Int) then true else (↑(vev18_0 Tk.imm t3).length : Int) != IntKind.i64.wrap ((↑t3.length : Int) - (1 : Int)) else false else false else false else false else false
noncomputable def xc5_12_1 (t3 : List (List AV)) (t5 : List (List AV)) (t6 : Int) : Bool := bif decide (t6 < (↑t5.length : Int)) then false else true
theorem rd5_12 (rest : Lsp) (t3 : List (List AV)) (t5 : List (List AV)) (t6 : Int) : roundV (cfg Try.prog tab 100000 (gk k9 30) (selL 5 ls5_5 rest) 5 0 Try.f5.ntmps) (loopAt Try.f5 12) [3, 5, 6] [] [2, 3] [] [AV.sl Tk.imm [Kd.int IntKind.i64, Kd.int IntKind.i64] t3, AV.sl Tk.imm [Kd.int IntKind.i64, Kd.int IntKind.i64] t5, AV.int IntKind.i64 t6] [] = bif go5_12 t3 t5 t6 then some (Ex.norm, [AV.sl Tk.imm [Kd.int IntKind.i64, Kd.int IntKind.i64] (vev18_0 Tk.imm t3), AV.sl Tk.imm [Kd.int IntKind.i64, Kd.int IntKind.i64] t5, AV.int IntKind.i64 (nx5_12_2 t3 t5 t6)], []) else bif xc5_12_0 t3 t5 t6 then some (Ex.ret, [AV.bool false, AV.sl Tk.imm [Kd.int IntKind.i64, Kd.int IntKind.i64] t3], []) else bif xc5_12_1 t3 t5 t6 then some (Ex.exit (nat_lit 2), [AV.junk, AV.sl Tk.imm [Kd.int IntKind.i64, Kd.int IntKind.i64] t3], []) else none := by
  have h : roundV (cfg Try.prog tab 100000 (gk k9 30) (selL 5 ls5_5 rest) 5 0 Try.f5.ntmps) (loopAt Try.f5 12) [3, 5, 6] [] [2, 3] [] [AV.sl Tk.imm [Kd.int IntKind.i64, Kd.int IntKind.i64] t3, AV.sl Tk.imm [Kd.int IntKind.i64, Kd.int IntKind.i64] t5, AV.int IntKind.i64 t6] [] = bif decide (t6 < (↑t5.length : Int)) then bif vev18_4 Tk.imm t3 then bif bif !vev18_3 Tk.imm t3 then true else bif decide ((0 : Int) ≤ t6) && decide (t6 < (↑t5.length : Int)) then bif bif false then true else !(vev18_1 Tk.imm t3 == intOf ((t5.getD t6.toNat []).getD (0 : Nat) AV.junk) && (vev18_2 Tk.imm t3 == intOf ((t5.getD t6.toNat []).getD ((0 : Nat) + (1 : Nat)) AV.junk) && true)) then true else bif vev13_1 Tk.imm (vev18_0 Tk.imm t3) then bif bif false then true else vev13_0 Tk.imm (vev18_0 Tk.imm t3) != (0 : Int) then true else true else false else false then bif bif !vev18_3 Tk.imm t3 then true else bif decide ((0 : Int) ≤ t6) && decide (t6 < (↑t5.length : Int)) then bif bif false then true else !(vev18_1 Tk.imm t3 == intOf ((t5.getD t6.toNat []).getD (0 : Nat) AV.junk) && (vev18_2 Tk.imm t3 == intOf ((t5.getD t6.toNat []).getD ((0 : Nat) + (1 : Nat)) AV.junk) && true)) then true else bif vev13_1 Tk.imm (vev18_0 Tk.imm t3) then bif bif false then true else vev13_0 Tk.imm (vev18_0 Tk.imm t3) != (0 : Int) then true else bif false then true else (↑(vev18_0 Tk.imm t3).length : Int) != IntKind.i64.wrap ((↑t3.length : Int) - (1 : Int)) else false else false then some (Ex.ret, [AV.bool false, AV.sl Tk.imm [Kd.int IntKind.i64, Kd.int IntKind.i64] t3], []) else some (Ex.norm, [AV.sl Tk.imm [Kd.int IntKind.i64, Kd.int IntKind.i64] (vev18_0 Tk.imm t3), AV.sl Tk.imm [Kd.int IntKind.i64, Kd.int IntKind.i64] t5, AV.int IntKind.i64 (IntKind.i64.wrap (t6 + (1 : Int)))], []) else none else none else some (Ex.exit (nat_lit 2), [AV.junk, AV.sl Tk.imm [Kd.int IntKind.i64, Kd.int IntKind.i64] t3], []) := by kernel_rfl
  rw [h]
  clear h
  unfold go5_12 nx5_12_2 xc5_12_0 xc5_12_1
  generalize (!(vev18_1 Tk.imm t3 == intOf ((t5.getD t6.toNat []).getD (0 : Nat) AV.junk) && (vev18_2 Tk.imm t3 == intOf ((t5.getD t6.toNat []).getD ((0 : Nat) + (1 : Nat)) AV.junk) && true))) = c0
  generalize (decide ((0 : Int) ≤ t6) && decide (t6 < (↑t5.length : Int))) = c1
  generalize ((↑(vev18_0 Tk.imm t3).length : Int) != IntKind.i64.wrap ((↑t3.length : Int) - (1 : Int))) = c2
  generalize (decide (t6 < (↑t5.length : Int))) = c3
  generalize (vev13_0 Tk.imm (vev18_0 Tk.imm t3) != (0 : Int)) = c4
  generalize (vev13_1 Tk.imm (vev18_0 Tk.imm t3)) = c5
  generalize (!vev18_3 Tk.imm t3) = c6
  generalize (vev18_4 Tk.imm t3) = c7
  cases c3
  · skip
    rfl
  · skip
    cases c7
    · skip
      rfl
    · skip
      cases c6
      · skip
        cases c1
        · skip
          rfl
        · skip
          cases c0
          · skip
            cases c5
            · skip
              rfl
            · skip
              cases c4
              · skip
                cases c2
                · skip
                  rfl
                · skip
                  rfl
              · skip
                rfl
          · skip
            rfl
      · skip
        rfl
abbrev pl5_12 : Type := (List (List AV))
abbrev sl5_12 : Type := (List (List AV)) × Int
noncomputable def vt5_12 (a : pl5_12 × sl5_12) : List AV := [AV.sl Tk.imm [Kd.int IntKind.i64, Kd.int IntKind.i64] a.2.1, AV.sl Tk.imm [Kd.int IntKind.i64, Kd.int IntKind.i64] a.1, AV.int IntKind.i64 a.2.2]
noncomputable def vc5_12 (a : pl5_12 × sl5_12) : List Blk := []
noncomputable def de5_12 (vt : List AV) (vc : List Blk) : Option (pl5_12 × sl5_12) :=
  match vt with
  | [qa0, qa1, qa2] => (match vc with
  | [] => (match qa0 with
  | AV.sl Tk.imm [Kd.int IntKind.i64, Kd.int IntKind.i64] t3 => (match qa1 with
  | AV.sl Tk.imm [Kd.int IntKind.i64, Kd.int IntKind.i64] t5 => (match qa2 with
  | AV.int IntKind.i64 t6 => (some (t5, (t3, t6)))
  | _ => none)
  | _ => none)
  | _ => none)
  | _ => none)
  | _ => none
theorem de5_12_ok (vt : List AV) (vc : List Blk) (a : pl5_12 × sl5_12) (h : de5_12 vt vc = some a) : vt = vt5_12 a ∧ vc = vc5_12 a := by
  unfold de5_12 at h
  split at h
  rotate_left
  · cases h
  split at h
  rotate_left
  · cases h
  split at h
  rotate_left
  · cases h
  split at h
  rotate_left
  · cases h
  split at h
  rotate_left
  · cases h
  injection h with h
  subst h
  exact ⟨rfl, rfl⟩
noncomputable def g5_12 (p : pl5_12) (s : sl5_12) : Bool := go5_12 s.1 p s.2
noncomputable def n5_12 (p : pl5_12) (s : sl5_12) : sl5_12 := (vev18_0 Tk.imm s.1, nx5_12_2 s.1 p s.2)
noncomputable def y5_12 (p : pl5_12) (s : sl5_12) : List (Bool × Out) := [(xc5_12_0 s.1 p s.2, (Ex.ret, [AV.bool false, AV.sl Tk.imm [Kd.int IntKind.i64, Kd.int IntKind.i64] s.1], []))]
noncomputable def z5_12 (p : pl5_12) (s : sl5_12) : Bool := xc5_12_1 s.1 p s.2
noncomputable def d5_12 (p : pl5_12) (s : sl5_12) : Out := (Ex.exit (nat_lit 2), [AV.junk, AV.sl Tk.imm [Kd.int IntKind.i64, Kd.int IntKind.i64] s.1], [])
noncomputable def ls5_12 : St → Option (Bool × List (Bool × Ex × St) × Ex × St) := lspOf [3, 5, 6] [] [2, 3] [] Try.f5.ntmps (0 + tab.nid 5) de5_12 (spI g5_12 n5_12 y5_12 z5_12 d5_12)
theorem lo5_12 (rest : Lsp) : LoopOK1 (cfg Try.prog tab 100000 (gk k9 30) (selL 5 ls5_5 (selL 12 ls5_12 rest)) 5 0 Try.f5.ntmps) (loopAt Try.f5 12) := LoopOK1.iter (i := 12) (by kernel_rfl) [3, 5, 6] [] [2, 3] [] vt5_12 vc5_12 de5_12 g5_12 n5_12 y5_12 z5_12 d5_12 (fun _ => rfl) de5_12_ok (fun p s => rd5_12 (selL 12 ls5_12 rest) (s.1) p (s.2)) (fun _ _ => rfl)
noncomputable def lsp5 : Lsp := (selL 5 ls5_5 (selL 12 ls5_12 noLsp))
theorem loops5 : ∀ c, Try.f5.body = some c → LoopsOK (cfg Try.prog tab 100000 (gk k9 30) lsp5 5 0 Try.f5.ntmps) c := loops_of [5, 12] (by kernel_rfl) (by kernel_rfl) (fun i hi => by
  simp only [List.mem_cons, List.not_mem_nil, or_false] at hi
  rcases hi with rfl | rfl
  · exact lo5_5 (selL 12 ls5_12 noLsp)
  · exact lo5_12 noLsp)
noncomputable def rev5_0 (es : List (List AV)) : sl5_5 := finL (g5_5 es) (n5_5 es) ([], (0 : Int))
noncomputable def rev5_1 (es : List (List AV)) : List (List AV) := (rev5_0 es).fst
noncomputable def rev5_2 (es : List (List AV)) : sl5_12 := finL (g5_12 (vev12_0 Tk.imm es)) (n5_12 (vev12_0 Tk.imm es)) (rev5_1 es, (0 : Int))
noncomputable def rev5_3 (es : List (List AV)) : List (List AV) := (rev5_2 es).fst
noncomputable def vev5_0 (es : List (List AV)) : Bool := bif decide ((↑es.length : Int) > (60 : Int)) then true else bif xc5_5_0 es (rev5_1 es) (rev5_0 es).snd then false else bif xc5_12_0 (rev5_3 es) (vev12_0 Tk.imm es) (rev5_2 es).snd then false else bif (↑(rev5_3 es).length : Int) == (0 : Int) then bif true then true else false else false
noncomputable def vev5_1 (es : List (List AV)) : Bool := bif decide ((↑es.length : Int) > (60 : Int)) then true else bif (spI g5_5 n5_5 y5_5 z5_5 d5_5 (es, [], (0 : Int))).fst then bif xc5_5_0 es (rev5_1 es) (rev5_0 es).snd then true else bif vev12_1 Tk.imm es then bif (spI g5_12 n5_12 y5_12 z5_12 d5_12 (vev12_0 Tk.imm es, rev5_1 es, (0 : Int))).fst then true else false else false else false
theorem ev5 (es : List (List AV)) : evFun (cfg Try.prog tab 100000 (gk k9 30) lsp5 5 ([] : List Blk).length Try.f5.ntmps) Try.f5 [.sl .imm [.int .i64, .int .i64] es] [] = bif vev5_1 es then some (AV.bool (vev5_0 es), []) else none := by
  have h : evFun (cfg Try.prog tab 100000 (gk k9 30) lsp5 5 ([] : List Blk).length Try.f5.ntmps) Try.f5 [.sl .imm [.int .i64, .int .i64] es] [] = bif decide ((↑es.length : Int) > (60 : Int)) then some (AV.bool true, []) else bif (spI g5_5 n5_5 y5_5 z5_5 d5_5 (es, [], (0 : Int))).fst then bif xc5_5_0 es (rev5_1 es) (rev5_0 es).snd then some (AV.bool false, []) else bif vev12_1 Tk.imm es then bif (spI g5_12 n5_12 y5_12 z5_12 d5_12 (vev12_0 Tk.imm es, rev5_1 es, (0 : Int))).fst then bif xc5_12_0 (rev5_3 es) (vev12_0 Tk.imm es) (rev5_2 es).snd then some (AV.bool false, []) else bif bif (↑(rev5_3 es).length : Int) == (0 : Int) then true else true then some (AV.bool (bif (↑(rev5_3 es).length : Int) == (0 : Int) then bif true then true else false else false), []) else none else none else none else none := by kernel_rfl
  rw [h]
  clear h
  unfold vev5_0 vev5_1
  generalize ((spI g5_12 n5_12 y5_12 z5_12 d5_12 (vev12_0 Tk.imm es, rev5_1 es, (0 : Int))).fst) = c0
  generalize ((spI g5_5 n5_5 y5_5 z5_5 d5_5 (es, [], (0 : Int))).fst) = c1
  generalize (decide ((↑es.length : Int) > (60 : Int))) = c2
  generalize ((↑(rev5_3 es).length : Int) == (0 : Int)) = c3
  generalize (xc5_12_0 (rev5_3 es) (vev12_0 Tk.imm es) (rev5_2 es).snd) = c4
  generalize (xc5_5_0 es (rev5_1 es) (rev5_0 es).snd) = c5
  generalize (vev12_1 Tk.imm es) = c6
  cases c2
  · skip
    cases c1
    · skip
      rfl
    · skip
      cases c5
      · skip
        cases c6
        · skip
          rfl
        · skip
          cases c0
          · skip
            rfl
          · skip
            cases c4
            · skip
              cases c3
              · skip
                rfl
              · skip
                rfl
            · skip
              rfl
      · skip
        rfl
  · skip
    rfl
-- spec vev5_1 es ;; (AV.bool (vev5_0 es), [])
-- law 5: loops loops5 gam k9
end Go.Proofs.Gv
