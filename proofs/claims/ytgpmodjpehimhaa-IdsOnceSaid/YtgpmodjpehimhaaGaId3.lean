import Derived.Test.YtgpmodjpehimhaaGt
import Derived.KernelRfl
import Derived.Test.YtgpmodjpehimhaaGwF
import Derived.Test.YtgpmodjpehimhaaGaId2
namespace Go.Proofs.Gv
open Go.Proofs
set_option linter.unusedVariables false
noncomputable def rn10_6_0 (t3 : Int) (b0_0 : Int) (b0_1k : Tk) (b0_1 : List (List AV)) (b0_2k : Tk) (b0_2 : List (List AV)) : Int := IntKind.i64.wrap (t3 - (1 : Int))
noncomputable def rn10_6_1 (t3 : Int) (b0_0 : Int) (b0_1k : Tk) (b0_1 : List (List AV)) (b0_2k : Tk) (b0_2 : List (List AV)) : Int := intOf ((b0_1.getD t3.toNat []).getD (0 : Nat) AV.junk)
noncomputable def rn10_6_2 (t3 : Int) (b0_0 : Int) (b0_1k : Tk) (b0_1 : List (List AV)) (b0_2k : Tk) (b0_2 : List (List AV)) : Int := intOf ((b0_1.getD (rn10_6_0 t3 b0_0 b0_1k b0_1 b0_2k b0_2).toNat []).getD (0 : Nat) AV.junk)
noncomputable def go10_6 (t3 : Int) (b0_0 : Int) (b0_1k : Tk) (b0_1 : List (List AV)) (b0_2k : Tk) (b0_2 : List (List AV)) : Bool := bif decide (t3 < (↑b0_1.length : Int)) then bif decide ((0 : Int) ≤ t3) && decide (t3 < (↑b0_1.length : Int)) then bif decide ((0 : Int) ≤ rn10_6_0 t3 b0_0 b0_1k b0_1 b0_2k b0_2) && decide (rn10_6_0 t3 b0_0 b0_1k b0_1 b0_2k b0_2 < (↑b0_1.length : Int)) then bif decide (rn10_6_1 t3 b0_0 b0_1k b0_1 b0_2k b0_2 ≤ rn10_6_2 t3 b0_0 b0_1k b0_1 b0_2k b0_2) then false else true else false else false else false
noncomputable def nx10_6_0 (t3 : Int) (b0_0 : Int) (b0_1k : Tk) (b0_1 : List (List AV)) (b0_2k : Tk) (b0_2 : List (List AV)) : Int := IntKind.i64.wrap (t3 + (1 : Int))
noncomputable def xc10_6_0 (t3 : Int) (b0_0 : Int) (b0_1k : Tk) (b0_1 : List (List AV)) (b0_2k : Tk) (b0_2 : List (List AV)) : Bool := bif decide (t3 < (↑b0_1.length : Int)) then bif decide ((0 : Int) ≤ t3) && decide (t3 < (↑b0_1.length : Int)) then bif decide ((0 : Int) ≤ rn10_6_0 t3 b0_0 b0_1k b0_1 b0_2k b0_2) && decide (rn10_6_0 t3 b0_0 b0_1k b0_1 b0_2k b0_2 < (↑b0_1.length : Int)) then decide (rn10_6_1 t3 b0_0 b0_1k b0_1 b0_2k b0_2 ≤ rn10_6_2 t3 b0_0 b0_1k b0_1 b0_2k b0_2) else false else false else false
noncomputable def xc10_6_1 (t3 : Int) (b0_0 : Int) (b0_1k : Tk) (b0_1 : List (List AV)) (b0_2k : Tk) (b0_2 : List (List AV)) : Bool := bif decide (t3 < (↑b0_1.length : Int)) then false else true
theorem rd10_6 (rest : Lsp) (t3 : Int) (b0_0 : Int) (b0_1k : Tk) (b0_1 : List (List AV)) (b0_2k : Tk) (b0_2 : List (List AV)) : roundV (cfg Try.prog tab 100000 (gk k7 30) rest 10 0 Try.f10.ntmps) (loopAt Try.f10 6) [1, 3] [0] [1, 2] [0] [AV.hp (nat_lit 0) (nat_lit 0), AV.int IntKind.i64 t3] [Blk.var [AV.int IntKind.i64 b0_0, AV.sl b0_1k [Kd.int IntKind.i64] b0_1, AV.sl b0_2k [Kd.int IntKind.i64] b0_2]] = bif go10_6 t3 b0_0 b0_1k b0_1 b0_2k b0_2 then some (Ex.norm, [AV.hp (nat_lit 0) (nat_lit 0), AV.int IntKind.i64 (nx10_6_0 t3 b0_0 b0_1k b0_1 b0_2k b0_2)], [Blk.var [AV.int IntKind.i64 b0_0, AV.sl b0_1k [Kd.int IntKind.i64] b0_1, AV.sl b0_2k [Kd.int IntKind.i64] b0_2]]) else bif xc10_6_0 t3 b0_0 b0_1k b0_1 b0_2k b0_2 then some (Ex.ret, [AV.hp (nat_lit 0) (nat_lit 0), AV.int IntKind.i64 (10 : Int)], [Blk.var [AV.int IntKind.i64 b0_0, AV.sl b0_1k [Kd.int IntKind.i64] b0_1, AV.sl b0_2k [Kd.int IntKind.i64] b0_2]]) else bif xc10_6_1 t3 b0_0 b0_1k b0_1 b0_2k b0_2 then some (Ex.exit (nat_lit 1), [AV.hp (nat_lit 0) (nat_lit 0), AV.junk], [Blk.var [AV.int IntKind.i64 b0_0, AV.sl b0_1k [Kd.int IntKind.i64] b0_1, AV.sl b0_2k [Kd.int IntKind.i64] b0_2]]) else none := by
  have h : roundV (cfg Try.prog tab 100000 (gk k7 30) rest 10 0 Try.f10.ntmps) (loopAt Try.f10 6) [1, 3] [0] [1, 2] [0] [AV.hp (nat_lit 0) (nat_lit 0), AV.int IntKind.i64 t3] [Blk.var [AV.int IntKind.i64 b0_0, AV.sl b0_1k [Kd.int IntKind.i64] b0_1, AV.sl b0_2k [Kd.int IntKind.i64] b0_2]] = bif decide (t3 < (↑b0_1.length : Int)) then bif decide ((0 : Int) ≤ t3) && decide (t3 < (↑b0_1.length : Int)) then bif decide ((0 : Int) ≤ rn10_6_0 t3 b0_0 b0_1k b0_1 b0_2k b0_2) && decide (rn10_6_0 t3 b0_0 b0_1k b0_1 b0_2k b0_2 < (↑b0_1.length : Int)) then bif decide (rn10_6_1 t3 b0_0 b0_1k b0_1 b0_2k b0_2 ≤ rn10_6_2 t3 b0_0 b0_1k b0_1 b0_2k b0_2) then some (Ex.ret, [AV.hp (nat_lit 0) (nat_lit 0), AV.int IntKind.i64 (10 : Int)], [Blk.var [AV.int IntKind.i64 b0_0, AV.sl b0_1k [Kd.int IntKind.i64] b0_1, AV.sl b0_2k [Kd.int IntKind.i64] b0_2]]) else some (Ex.norm, [AV.hp (nat_lit 0) (nat_lit 0), AV.int IntKind.i64 (IntKind.i64.wrap (t3 + (1 : Int)))], [Blk.var [AV.int IntKind.i64 b0_0, AV.sl b0_1k [Kd.int IntKind.i64] b0_1, AV.sl b0_2k [Kd.int IntKind.i64] b0_2]]) else none else none else some (Ex.exit (nat_lit 1), [AV.hp (nat_lit 0) (nat_lit 0), AV.junk], [Blk.var [AV.int IntKind.i64 b0_0, AV.sl b0_1k [Kd.int IntKind.i64] b0_1, AV.sl b0_2k [Kd.int IntKind.i64] b0_2]]) := by kernel_rfl
  rw [h]
  clear h
  unfold go10_6 nx10_6_0 xc10_6_0 xc10_6_1
  generalize (decide ((0 : Int) ≤ rn10_6_0 t3 b0_0 b0_1k b0_1 b0_2k b0_2) && decide (rn10_6_0 t3 b0_0 b0_1k b0_1 b0_2k b0_2 < (↑b0_1.length : Int))) = c0
  generalize (decide ((0 : Int) ≤ t3) && decide (t3 < (↑b0_1.length : Int))) = c1
  generalize (decide (rn10_6_1 t3 b0_0 b0_1k b0_1 b0_2k b0_2 ≤ rn10_6_2 t3 b0_0 b0_1k b0_1 b0_2k b0_2)) = c2
  generalize (decide (t3 < (↑b0_1.length : Int))) = c3
  cases c3
  · skip
    rfl
  · skip
    cases c1
    · skip
      rfl
    · skip
      cases c0
      · skip
        rfl
      · skip
        cases c2
        · skip
          rfl
        · skip
          rfl
abbrev pl10_6 : Type := Int × Tk × (List (List AV)) × Tk × (List (List AV))
abbrev sl10_6 : Type := Int
noncomputable def vt10_6 (a : pl10_6 × sl10_6) : List AV := [AV.hp (nat_lit 0) (nat_lit 0), AV.int IntKind.i64 a.2]
noncomputable def vc10_6 (a : pl10_6 × sl10_6) : List Blk := [Blk.var [AV.int IntKind.i64 a.1.1, AV.sl a.1.2.1 [Kd.int IntKind.i64] a.1.2.2.1, AV.sl a.1.2.2.2.1 [Kd.int IntKind.i64] a.1.2.2.2.2]]
noncomputable def de10_6 (vt : List AV) (vc : List Blk) : Option (pl10_6 × sl10_6) :=
  match vt with
  | [qa0, qa1] => (match vc with
  | [qb0] => (match qa0 with
  | AV.hp (0) (0) => (match qa1 with
  | AV.int IntKind.i64 t3 => (match qb0 with
  | Blk.var [AV.int IntKind.i64 b0_0, AV.sl b0_1k [Kd.int IntKind.i64] b0_1, AV.sl b0_2k [Kd.int IntKind.i64] b0_2] => (some ((b0_0, b0_1k, b0_1, b0_2k, b0_2), t3))
  | _ => none)
  | _ => none)
  | _ => none)
  | _ => none)
  | _ => none
theorem de10_6_ok (vt : List AV) (vc : List Blk) (a : pl10_6 × sl10_6) (h : de10_6 vt vc = some a) : vt = vt10_6 a ∧ vc = vc10_6 a := by
  unfold de10_6 at h
  split at h
  rotate_left
  · cases h
  split at h
  rotate_left
  · cases h
  split at h
  rotate_left
  · cases h
  split at h
  rotate_left
  · cases h
  split at h
  rotate_left
  · cases h
  injection h with h
  subst h
  exact ⟨rfl, rfl⟩
noncomputable def g10_6 (p : pl10_6) (s : sl10_6) : Bool := go10_6 s p.1 p.2.1 p.2.2.1 p.2.2.2.1 p.2.2.2.2
noncomputable def n10_6 (p : pl10_6) (s : sl10_6) : sl10_6 := nx10_6_0 s p.1 p.2.1 p.2.2.1 p.2.2.2.1 p.2.2.2.2
noncomputable def y10_6 (p : pl10_6) (s : sl10_6) : List (Bool × Out) := [(xc10_6_0 s p.1 p.2.1 p.2.2.1 p.2.2.2.1 p.2.2.2.2, (Ex.ret, [AV.hp (nat_lit 0) (nat_lit 0), AV.int IntKind.i64 (10 : Int)], [Blk.var [AV.int IntKind.i64 p.1, AV.sl p.2.1 [Kd.int IntKind.i64] p.2.2.1, AV.sl p.2.2.2.1 [Kd.int IntKind.i64] p.2.2.2.2]]))]
noncomputable def z10_6 (p : pl10_6) (s : sl10_6) : Bool := xc10_6_1 s p.1 p.2.1 p.2.2.1 p.2.2.2.1 p.2.2.2.2
noncomputable def d10_6 (p : pl10_6) (s : sl10_6) : Out := (Ex.exit (nat_lit 1), [AV.hp (nat_lit 0) (nat_lit 0), AV.junk], [Blk.var [AV.int IntKind.i64 p.1, AV.sl p.2.1 [Kd.int IntKind.i64] p.2.2.1, AV.sl p.2.2.2.1 [Kd.int IntKind.i64] p.2.2.2.2]])
noncomputable def ls10_6 : St → Option (Bool × List (Bool × Ex × St) × Ex × St) := lspOf [1, 3] [0] [1, 2] [0] Try.f10.ntmps (0 + tab.nid 10) de10_6 (spI g10_6 n10_6 y10_6 z10_6 d10_6)
theorem lo10_6 (rest : Lsp) : LoopOK1 (cfg Try.prog tab 100000 (gk k7 30) (selL 6 ls10_6 rest) 10 0 Try.f10.ntmps) (loopAt Try.f10 6) := LoopOK1.iter (i := 6) (by kernel_rfl) [1, 3] [0] [1, 2] [0] vt10_6 vc10_6 de10_6 g10_6 n10_6 y10_6 z10_6 d10_6 (fun _ => rfl) de10_6_ok (fun p s => rd10_6 (selL 6 ls10_6 rest) s (p.1) (p.2.1) (p.2.2.1) (p.2.2.2.1) (p.2.2.2.2)) (fun _ _ => rfl)
noncomputable def rn10_13_0 (t4 : Int) (b0_0 : Int) (b0_1k : Tk) (b0_1 : List (List AV)) (b0_2k : Tk) (b0_2 : List (List AV)) : Int := intOf ((b0_2.getD t4.toNat []).getD (0 : Nat) AV.junk)
noncomputable def go10_13 (t4 : Int) (b0_0 : Int) (b0_1k : Tk) (b0_1 : List (List AV)) (b0_2k : Tk) (b0_2 : List (List AV)) : Bool := bif decide (t4 < (↑b0_2.length : Int)) then bif bif decide ((0 : Int) ≤ t4) && decide (t4 < (↑b0_2.length : Int)) then bif vev17_1 b0_1k b0_1 (rn10_13_0 t4 b0_0 b0_1k b0_1 b0_2k b0_2) then bif vev17_0 b0_1k b0_1 (rn10_13_0 t4 b0_0 b0_1k b0_1 b0_2k b0_2) then true else bif bnd (0 : Int) t4 (↑b0_2.length : Int) then bif decide ((0 : Int) ≤ t4) && decide (t4 < (↑b0_2.length : Int)) then vev17_1 b0_2k (List.take t4.toNat b0_2) (rn10_13_0 t4 b0_0 b0_1k b0_1 b0_2k b0_2) else false else false else false else false then bif bif decide ((0 : Int) ≤ t4) && decide (t4 < (↑b0_2.length : Int)) then bif vev17_1 b0_1k b0_1 (rn10_13_0 t4 b0_0 b0_1k b0_1 b0_2k b0_2) then bif vev17_0 b0_1k b0_1 (rn10_13_0 t4 b0_0 b0_1k b0_1 b0_2k b0_2) then true else bif bnd (0 : Int) t4 (↑b0_2.length : Int) then bif decide ((0 : Int) ≤ t4) && decide (t4 < (↑b0_2.length : Int)) then bif vev17_1 b0_2k (List.take t4.toNat b0_2) (rn10_13_0 t4 b0_0 b0_1k b0_1 b0_2k b0_2) then vev17_0 b0_2k (List.take t4.toNat b0_2) (rn10_13_0 t4 b0_0 b0_1k b0_1 b0_2k b0_2) else false else false else false else false else false then false else true else false else false
noncomputable def nx10_13_0 (t4 : Int) (b0_0 : Int) (b0_1k : Tk) (b0_1 : List (List AV)) (b0_2k : Tk) (b0_2 : List (List AV)) : Int := IntKind.i64.wrap (t4 + (1 : Int))
noncomputable def xc10_13_0 (t4 : Int) (b0_0 : Int) (b0_1k : Tk) (b0_1 : List (List AV)) (b0_2k : Tk) (b0_2 : List (List AV)) : Bool := bif decide (t4 < (↑b0_2.length : Int)) then bif bif decide ((0 : Int) ≤ t4) && decide (t4 < (↑b0_2.length : Int)) then bif vev17_1 b0_1k b0_1 (rn10_13_0 t4 b0_0 b0_1k b0_1 b0_2k b0_2) then bif vev17_0 b0_1k b0_1 (rn10_13_0 t4 b0_0 b0_1k b0_1 b0_2k b0_2) then true else bif bnd (0 : Int) t4 (↑b0_2.length : Int) then bif decide ((0 : Int) ≤ t4) && decide (t4 < (↑b0_2.length : Int)) then vev17_1 b0_2k (List.take t4.toNat b0_2) (rn10_13_0 t4 b0_0 b0_1k b0_1 b0_2k b0_2) else false else false else false else false then bif decide ((0 : Int) ≤ t4) && decide (t4 < (↑b0_2.length : Int)) then bif vev17_1 b0_1k b0_1 (rn10_13_0 t4 b0_0 b0_1k b0_1 b0_2k b0_2) then bif vev17_0 b0_1k b0_1 (rn10_13_0 t4 b0_0 b0_1k b0_1 b0_2k b0_2) then true else bif bnd (0 : Int) t4 (↑b0_2.length : Int) then bif decide ((0 : Int) ≤ t4) && decide (t4 < (↑b0_2.length : Int)) then bif vev17_1 b0_2k (List.take t4.toNat b0_2) (rn10_13_0 t4 b0_0 b0_1k b0_1 b0_2k b0_2) then vev17_0 b0_2k (List.take t4.toNat b0_2) (rn10_13_0 t4 b0_0 b0_1k b0_1 b0_2k b0_2) else false else false else false else false else false else false else false
noncomputable def xc10_13_1 (t4 : Int) (b0_0 : Int) (b0_1k : Tk) (b0_1 : List (List AV)) (b0_2k : Tk) (b0_2 : List (List AV)) : Bool := bif decide (t4 < (↑b0_2.length : Int)) then false else true
theorem rd10_13 (rest : Lsp) (t4 : Int) (b0_0 : Int) (b0_1k : Tk) (b0_1 : List (List AV)) (b0_2k : Tk) (b0_2 : List (List AV)) : roundV (cfg Try.prog tab 100000 (gk k7 30) (selL 6 ls10_6 rest) 10 0 Try.f10.ntmps) (loopAt Try.f10 13) [1, 4] [0] [2] [] [AV.hp (nat_lit 0) (nat_lit 0), AV.int IntKind.i64 t4] [Blk.var [AV.int IntKind.i64 b0_0, AV.sl b0_1k [Kd.int IntKind.i64] b0_1, AV.sl b0_2k [Kd.int IntKind.i64] b0_2]] = bif go10_13 t4 b0_0 b0_1k b0_1 b0_2k b0_2 then some (Ex.norm, [AV.hp (nat_lit 0) (nat_lit 0), AV.int IntKind.i64 (nx10_13_0 t4 b0_0 b0_1k b0_1 b0_2k b0_2)], [Blk.var [AV.int IntKind.i64 b0_0, AV.sl b0_1k [Kd.int IntKind.i64] b0_1, AV.sl b0_2k [Kd.int IntKind.i64] b0_2]]) else bif xc10_13_0 t4 b0_0 b0_1k b0_1 b0_2k b0_2 then some (Ex.ret, [AV.int IntKind.i64 (12 : Int)], []) else bif xc10_13_1 t4 b0_0 b0_1k b0_1 b0_2k b0_2 then some (Ex.exit (nat_lit 3), [AV.junk], []) else none := by
  have h : roundV (cfg Try.prog tab 100000 (gk k7 30) (selL 6 ls10_6 rest) 10 0 Try.f10.ntmps) (loopAt Try.f10 13) [1, 4] [0] [2] [] [AV.hp (nat_lit 0) (nat_lit 0), AV.int IntKind.i64 t4] [Blk.var [AV.int IntKind.i64 b0_0, AV.sl b0_1k [Kd.int IntKind.i64] b0_1, AV.sl b0_2k [Kd.int IntKind.i64] b0_2]] = bif decide (t4 < (↑b0_2.length : Int)) then bif bif decide ((0 : Int) ≤ t4) && decide (t4 < (↑b0_2.length : Int)) then bif vev17_1 b0_1k b0_1 (rn10_13_0 t4 b0_0 b0_1k b0_1 b0_2k b0_2) then bif vev17_0 b0_1k b0_1 (rn10_13_0 t4 b0_0 b0_1k b0_1 b0_2k b0_2) then true else bif bnd (0 : Int) t4 (↑b0_2.length : Int) then bif decide ((0 : Int) ≤ t4) && decide (t4 < (↑b0_2.length : Int)) then bif vev17_1 b0_2k (List.take t4.toNat b0_2) (rn10_13_0 t4 b0_0 b0_1k b0_1 b0_2k b0_2) then true else false else false else false else false else false then bif bif decide ((0 : Int) ≤ t4) && decide (t4 < (↑b0_2.length : Int)) then bif vev17_1 b0_1k b0_1 (rn10_13_0 t4 b0_0 b0_1k b0_1 b0_2k b0_2) then bif vev17_0 b0_1k b0_1 (rn10_13_0 t4 b0_0 b0_1k b0_1 b0_2k b0_2) then true else bif bnd (0 : Int) t4 (↑b0_2.length : Int) then bif decide ((0 : Int) ≤ t4) && decide (t4 < (↑b0_2.length : Int)) then bif vev17_1 b0_2k (List.take t4.toNat b0_2) (rn10_13_0 t4 b0_0 b0_1k b0_1 b0_2k b0_2) then bif false then true else vev17_0 b0_2k (List.take t4.toNat b0_2) (rn10_13_0 t4 b0_0 b0_1k b0_1 b0_2k b0_2) else false else false else false else false else false then some (Ex.ret, [AV.int IntKind.i64 (12 : Int)], []) else some (Ex.norm, [AV.hp (nat_lit 0) (nat_lit 0), AV.int IntKind.i64 (IntKind.i64.wrap (t4 + (1 : Int)))], [Blk.var [AV.int IntKind.i64 b0_0, AV.sl b0_1k [Kd.int IntKind.i64] b0_1, AV.sl b0_2k [Kd.int IntKind.i64] b0_2]]) else none else some (Ex.exit (nat_lit 3), [AV.junk], []) := by kernel_rfl
  rw [h]
  clear h
  unfold go10_13 nx10_13_0 xc10_13_0 xc10_13_1
  generalize (decide ((0 : Int) ≤ t4) && decide (t4 < (↑b0_2.length : Int))) = c0
  generalize (decide (t4 < (↑b0_2.length : Int))) = c1
  generalize (vev17_0 b0_2k (List.take t4.toNat b0_2) (rn10_13_0 t4 b0_0 b0_1k b0_1 b0_2k b0_2)) = c2
  generalize (vev17_1 b0_2k (List.take t4.toNat b0_2) (rn10_13_0 t4 b0_0 b0_1k b0_1 b0_2k b0_2)) = c3
  generalize (bnd (0 : Int) t4 (↑b0_2.length : Int)) = c4
  generalize (vev17_1 b0_1k b0_1 (rn10_13_0 t4 b0_0 b0_1k b0_1 b0_2k b0_2)) = c5
  generalize (vev17_0 b0_1k b0_1 (rn10_13_0 t4 b0_0 b0_1k b0_1 b0_2k b0_2)) = c6
  cases c1
  · skip
    rfl
  · skip
    cases c0
    · skip
      rfl
    · skip
      cases c5
      · skip
        rfl
      · skip
        cases c6
        · skip
          cases c4
          · skip
            rfl
          · skip
            cases c3
            · skip
              rfl
            · skip
              cases c2
              · skip
                rfl
              · skip
                rfl
        · skip
          rfl
abbrev pl10_13 : Type := Int × Tk × (List (List AV)) × Tk × (List (List AV))
abbrev sl10_13 : Type := Int
noncomputable def vt10_13 (a : pl10_13 × sl10_13) : List AV := [AV.hp (nat_lit 0) (nat_lit 0), AV.int IntKind.i64 a.2]
noncomputable def vc10_13 (a : pl10_13 × sl10_13) : List Blk := [Blk.var [AV.int IntKind.i64 a.1.1, AV.sl a.1.2.1 [Kd.int IntKind.i64] a.1.2.2.1, AV.sl a.1.2.2.2.1 [Kd.int IntKind.i64] a.1.2.2.2.2]]
noncomputable def de10_13 (vt : List AV) (vc : List Blk) : Option (pl10_13 × sl10_13) :=
  match vt with
  | [qa0, qa1] => (match vc with
  | [qb0] => (match qa0 with
  | AV.hp (0) (0) => (match qa1 with
  | AV.int IntKind.i64 t4 => (match qb0 with
  | Blk.var [AV.int IntKind.i64 b0_0, AV.sl b0_1k [Kd.int IntKind.i64] b0_1, AV.sl b0_2k [Kd.int IntKind.i64] b0_2] => (some ((b0_0, b0_1k, b0_1, b0_2k, b0_2), t4))
  | _ => none)
  | _ => none)
  | _ => none)
  | _ => none)
  | _ => none
theorem de10_13_ok (vt : List AV) (vc : List Blk) (a : pl10_13 × sl10_13) (h : de10_13 vt vc = some a) : vt = vt10_13 a ∧ vc = vc10_13 a := by
  unfold de10_13 at h
  split at h
  rotate_left
  · cases h
  split at h
  rotate_left
  · cases h
  split at h
  rotate_left
  · cases h
  split at h
  rotate_left
  · cases h
  split at h
  rotate_left
  · cases h
  injection h with h
  subst h
  exact ⟨rfl, rfl⟩
noncomputable def g10_13 (p : pl10_13) (s : sl10_13) : Bool := go10_13 s p.1 p.2.1 p.2.2.1 p.2.2.2.1 p.2.2.2.2
noncomputable def n10_13 (p : pl10_13) (s : sl10_13) : sl10_13 := nx10_13_0 s p.1 p.2.1 p.2.2.1 p.2.2.2.1 p.2.2.2.2
noncomputable def y10_13 (p : pl10_13) (s : sl10_13) : List (Bool × Out) := [(xc10_13_0 s p.1 p.2.1 p.2.2.1 p.2.2.2.1 p.2.2.2.2, (Ex.ret, [AV.int IntKind.i64 (12 : Int)], []))]
noncomputable def z10_13 (p : pl10_13) (s : sl10_13) : Bool := xc10_13_1 s p.1 p.2.1 p.2.2.1 p.2.2.2.1 p.2.2.2.2
noncomputable def d10_13 (p : pl10_13) (s : sl10_13) : Out := (Ex.exit (nat_lit 3), [AV.junk], [])
noncomputable def ls10_13 : St → Option (Bool × List (Bool × Ex × St) × Ex × St) := lspOf [1, 4] [0] [2] [] Try.f10.ntmps (0 + tab.nid 10) de10_13 (spI g10_13 n10_13 y10_13 z10_13 d10_13)
theorem lo10_13 (rest : Lsp) : LoopOK1 (cfg Try.prog tab 100000 (gk k7 30) (selL 6 ls10_6 (selL 13 ls10_13 rest)) 10 0 Try.f10.ntmps) (loopAt Try.f10 13) := LoopOK1.iter (i := 13) (by kernel_rfl) [1, 4] [0] [2] [] vt10_13 vc10_13 de10_13 g10_13 n10_13 y10_13 z10_13 d10_13 (fun _ => rfl) de10_13_ok (fun p s => rd10_13 (selL 13 ls10_13 rest) s (p.1) (p.2.1) (p.2.2.1) (p.2.2.2.1) (p.2.2.2.2)) (fun _ _ => rfl)
noncomputable def lsp10 : Lsp := (selL 6 ls10_6 (selL 13 ls10_13 noLsp))
theorem loops10 : ∀ c, Try.f10.body = some c → LoopsOK (cfg Try.prog tab 100000 (gk k7 30) lsp10 10 0 Try.f10.ntmps) c := loops_of [6, 13] (by kernel_rfl) (by kernel_rfl) (fun i hi => by
  simp only [List.mem_cons, List.not_mem_nil, or_false] at hi
  rcases hi with rfl | rfl
  · exact lo10_6 (selL 13 ls10_13 noLsp)
  · exact lo10_13 noLsp)
noncomputable def rev10_0 (l : Int) (tk : Tk) (es : List (List AV)) (tk2 : Tk) (es2 : List (List AV)) : sl10_6 := finL (g10_6 (l, tk, es, tk2, es2)) (n10_6 (l, tk, es, tk2, es2)) (1 : Int)
noncomputable def rev10_1 (l : Int) (tk : Tk) (es : List (List AV)) (tk2 : Tk) (es2 : List (List AV)) : sl10_13 := finL (g10_13 (l, tk, es, tk2, es2)) (n10_13 (l, tk, es, tk2, es2)) (0 : Int)
noncomputable def vev10_0 (l : Int) (tk : Tk) (es : List (List AV)) (tk2 : Tk) (es2 : List (List AV)) : Int := bif bif l != (0 : Int) then !vev16_0 l else false then (8 : Int) else bif bif decide ((↑es.length : Int) > (16 : Int)) then true else decide ((↑es2.length : Int) > (8 : Int)) then (7 : Int) else bif xc10_6_0 (rev10_0 l tk es tk2 es2) l tk es tk2 es2 then (10 : Int) else bif bif vev22_1 tk es l then bif !vev22_0 tk es l then true else bif vev22_1 tk2 es2 l then !vev22_0 tk2 es2 l else false else false then (4 : Int) else bif xc10_13_0 (rev10_1 l tk es tk2 es2) l tk es tk2 es2 then (12 : Int) else (0 : Int)
noncomputable def vev10_1 (l : Int) (tk : Tk) (es : List (List AV)) (tk2 : Tk) (es2 : List (List AV)) : Bool := bif bif l != (0 : Int) then !vev16_0 l else false then true else bif bif decide ((↑es.length : Int) > (16 : Int)) then true else decide ((↑es2.length : Int) > (8 : Int)) then true else bif (spI g10_6 n10_6 y10_6 z10_6 d10_6 ((l, tk, es, tk2, es2), (1 : Int))).fst then bif xc10_6_0 (rev10_0 l tk es tk2 es2) l tk es tk2 es2 then true else bif bif vev22_1 tk es l then bif !vev22_0 tk es l then true else vev22_1 tk2 es2 l else false then bif bif vev22_1 tk es l then bif !vev22_0 tk es l then true else bif vev22_1 tk2 es2 l then !vev22_0 tk2 es2 l else false else false then true else bif (spI g10_13 n10_13 y10_13 z10_13 d10_13 ((l, tk, es, tk2, es2), (0 : Int))).fst then true else false else false else false
theorem ev10 (l : Int) (tk : Tk) (es : List (List AV)) (tk2 : Tk) (es2 : List (List AV)) : evFin (cfg Try.prog tab 100000 (gk k7 30) lsp10 10 ([] : List Blk).length Try.f10.ntmps) ([] : List Blk).length Try.f10.resultTypes.toList Try.f10 [.agg [.int .i64 l, .sl tk [.int .i64] es, .sl tk2 [.int .i64] es2]] [] = bif vev10_1 l tk es tk2 es2 then some (true, AV.int IntKind.i64 (vev10_0 l tk es tk2 es2), []) else none := by
  have h : evFin (cfg Try.prog tab 100000 (gk k7 30) lsp10 10 ([] : List Blk).length Try.f10.ntmps) ([] : List Blk).length Try.f10.resultTypes.toList Try.f10 [.agg [.int .i64 l, .sl tk [.int .i64] es, .sl tk2 [.int .i64] es2]] [] = bif bif l != (0 : Int) then true else true then bif bif l != (0 : Int) then bif true then !vev16_0 l else false else false then some (true, AV.int IntKind.i64 (8 : Int), []) else bif bif decide ((↑es.length : Int) > (16 : Int)) then true else true then bif bif decide ((↑es.length : Int) > (16 : Int)) then true else bif false then true else decide ((↑es2.length : Int) > (8 : Int)) then some (true, AV.int IntKind.i64 (7 : Int), []) else bif (spI g10_6 n10_6 y10_6 z10_6 d10_6 ((l, tk, es, tk2, es2), (1 : Int))).fst then bif xc10_6_0 (rev10_0 l tk es tk2 es2) l tk es tk2 es2 then some (true, AV.int IntKind.i64 (10 : Int), []) else bif bif vev22_1 tk es l then bif !vev22_0 tk es l then true else bif vev22_1 tk2 es2 l then true else false else false then bif bif vev22_1 tk es l then bif !vev22_0 tk es l then true else bif vev22_1 tk2 es2 l then bif false then true else !vev22_0 tk2 es2 l else false else false then some (true, AV.int IntKind.i64 (4 : Int), []) else bif (spI g10_13 n10_13 y10_13 z10_13 d10_13 ((l, tk, es, tk2, es2), (0 : Int))).fst then bif xc10_13_0 (rev10_1 l tk es tk2 es2) l tk es tk2 es2 then some (true, AV.int IntKind.i64 (12 : Int), []) else some (true, AV.int IntKind.i64 (0 : Int), []) else none else none else none else none else none := by kernel_rfl
  rw [h]
  clear h
  unfold vev10_0 vev10_1
  generalize ((spI g10_13 n10_13 y10_13 z10_13 d10_13 ((l, tk, es, tk2, es2), (0 : Int))).fst) = c0
  generalize ((spI g10_6 n10_6 y10_6 z10_6 d10_6 ((l, tk, es, tk2, es2), (1 : Int))).fst) = c1
  generalize (decide ((↑es.length : Int) > (16 : Int))) = c2
  generalize (decide ((↑es2.length : Int) > (8 : Int))) = c3
  generalize (xc10_13_0 (rev10_1 l tk es tk2 es2) l tk es tk2 es2) = c4
  generalize (xc10_6_0 (rev10_0 l tk es tk2 es2) l tk es tk2 es2) = c5
  generalize (l != (0 : Int)) = c6
  generalize (!vev22_0 tk2 es2 l) = c7
  generalize (!vev22_0 tk es l) = c8
  generalize (vev22_1 tk2 es2 l) = c9
  generalize (vev22_1 tk es l) = c10
  generalize (!vev16_0 l) = c11
  cases c6
  · skip
    cases c2
    · skip
      cases c3
      · skip
        cases c1
        · skip
          rfl
        · skip
          cases c5
          · skip
            cases c10
            · skip
              rfl
            · skip
              cases c8
              · skip
                cases c9
                · skip
                  rfl
                · skip
                  cases c7
                  · skip
                    cases c0
                    · skip
                      rfl
                    · skip
                      cases c4
                      · skip
                        rfl
                      · skip
                        rfl
                  · skip
                    rfl
              · skip
                rfl
          · skip
            rfl
      · skip
        rfl
    · skip
      rfl
  · skip
    cases c11
    · skip
      cases c2
      · skip
        cases c3
        · skip
          cases c1
          · skip
            rfl
          · skip
            cases c5
            · skip
              cases c10
              · skip
                rfl
              · skip
                cases c8
                · skip
                  cases c9
                  · skip
                    rfl
                  · skip
                    cases c7
                    · skip
                      cases c0
                      · skip
                        rfl
                      · skip
                        cases c4
                        · skip
                          rfl
                        · skip
                          rfl
                    · skip
                      rfl
                · skip
                  rfl
            · skip
              rfl
        · skip
          rfl
      · skip
        rfl
    · skip
      rfl
-- spec vev10_1 l tk es tk2 es2 ;; (true, AV.int IntKind.i64 (vev10_0 l tk es tk2 es2), [])
noncomputable def sp10 : List AV → List Blk → Option (Bool × AV × List Blk)
  | [.agg [.int .i64 l, .sl tk [.int .i64] es, .sl tk2 [.int .i64] es2]], [] => spW (vev10_1 l tk es tk2 es2) (some ((true, AV.int IntKind.i64 (vev10_0 l tk es tk2 es2), [])))
  | _, _ => none
noncomputable def k10 : Gam := fun f T C => match Nat.beq f 10 with
  | true => (sp10 T C).or (k7 f T C)
  | false => k7 f T C
theorem k10_ok : GamOK Try.prog k10 := by
  intro f T C r outs h
  unfold k10 at h
  cases hf : Nat.beq f 10 with
  | false => rw [hf] at h; exact k7_ok f T C r outs h
  | true =>
    have hf' := Nat.eq_of_beq_eq_true hf
    subst hf'
    rw [hf] at h
    dsimp only at h
    cases hs : sp10 T C with
    | none => rw [hs] at h; exact k7_ok _ T C r outs h
    | some x =>
      rw [hs] at h
      have hx : x = (true, r, outs) := by simpa using h
      subst hx
      unfold sp10 at hs
      split at hs
      · rename_i l tk es tk2 es2
        obtain ⟨hb, rfl, rfl⟩ := spT_inv hs
        have he := ev10 l tk es tk2 es2
        rw [hb, cond_true] at he
        obtain ⟨r0, o0, h0, he⟩ := evFin_inv he
        obtain ⟨h1, h2⟩ := fn_ok mixed plain (gk_ok k7_ok 30) Try.func10 loops10 h0
        exact ⟨h1, h2.fin he⟩
      · cases hs
noncomputable def vev8_0 (l : Int) (es : List (List AV)) (es2 : List (List AV)) (id : Int) : Int := bif !vev16_0 id then (0 : Int) else bif decide (id > l) then (1 : Int) else bif vev17_0 Tk.imm es id then (2 : Int) else bif vev17_0 Tk.imm es2 id then (4 : Int) else (3 : Int)
noncomputable def vev8_1 (l : Int) (es : List (List AV)) (es2 : List (List AV)) (id : Int) : Bool := bif !vev16_0 id then true else bif decide (id > l) then true else bif vev17_1 Tk.imm es id then bif vev17_0 Tk.imm es id then true else bif vev17_1 Tk.imm es2 id then true else false else false
theorem ev8 (l : Int) (es : List (List AV)) (es2 : List (List AV)) (id : Int) : evFin (cfg Try.prog tab 100000 (gk k10 30) noLsp 8 ([] : List Blk).length Try.f8.ntmps) ([] : List Blk).length Try.f8.resultTypes.toList Try.f8 [.agg [.int .i64 l, .sl .imm [.int .i64] es, .sl .imm [.int .i64] es2], .int .i64 id] [] = bif vev8_1 l es es2 id then some (true, AV.int IntKind.i64 (vev8_0 l es es2 id), []) else none := by
  have h : evFin (cfg Try.prog tab 100000 (gk k10 30) noLsp 8 ([] : List Blk).length Try.f8.ntmps) ([] : List Blk).length Try.f8.resultTypes.toList Try.f8 [.agg [.int .i64 l, .sl .imm [.int .i64] es, .sl .imm [.int .i64] es2], .int .i64 id] [] = bif !vev16_0 id then some (true, AV.int IntKind.i64 (0 : Int), []) else bif decide (id > l) then some (true, AV.int IntKind.i64 (1 : Int), []) else bif vev17_1 Tk.imm es id then bif vev17_0 Tk.imm es id then some (true, AV.int IntKind.i64 (2 : Int), []) else bif vev17_1 Tk.imm es2 id then bif vev17_0 Tk.imm es2 id then some (true, AV.int IntKind.i64 (4 : Int), []) else some (true, AV.int IntKind.i64 (3 : Int), []) else none else none := by kernel_rfl
  rw [h]
  clear h
  unfold vev8_0 vev8_1
  generalize (decide (id > l)) = c0
  generalize (vev17_0 Tk.imm es2 id) = c1
  generalize (vev17_1 Tk.imm es id) = c2
  generalize (vev17_0 Tk.imm es id) = c3
  generalize (vev17_1 Tk.imm es2 id) = c4
  generalize (!vev16_0 id) = c5
  cases c5
  · skip
    cases c0
    · skip
      cases c2
      · skip
        rfl
      · skip
        cases c3
        · skip
          cases c4
          · skip
            rfl
          · skip
            cases c1
            · skip
              rfl
            · skip
              rfl
        · skip
          rfl
    · skip
      rfl
  · skip
    rfl
-- spec vev8_1 l es es2 id ;; (true, AV.int IntKind.i64 (vev8_0 l es es2 id), [])
noncomputable def sp8 : List AV → List Blk → Option (Bool × AV × List Blk)
  | [.agg [.int .i64 l, .sl .imm [.int .i64] es, .sl .imm [.int .i64] es2], .int .i64 id], [] => spW (vev8_1 l es es2 id) (some ((true, AV.int IntKind.i64 (vev8_0 l es es2 id), [])))
  | _, _ => none
noncomputable def k8 : Gam := fun f T C => match Nat.beq f 8 with
  | true => (sp8 T C).or (k10 f T C)
  | false => k10 f T C
theorem k8_ok : GamOK Try.prog k8 := by
  intro f T C r outs h
  unfold k8 at h
  cases hf : Nat.beq f 8 with
  | false => rw [hf] at h; exact k10_ok f T C r outs h
  | true =>
    have hf' := Nat.eq_of_beq_eq_true hf
    subst hf'
    rw [hf] at h
    dsimp only at h
    cases hs : sp8 T C with
    | none => rw [hs] at h; exact k10_ok _ T C r outs h
    | some x =>
      rw [hs] at h
      have hx : x = (true, r, outs) := by simpa using h
      subst hx
      unfold sp8 at hs
      split at hs
      · rename_i l es es2 id
        obtain ⟨hb, rfl, rfl⟩ := spT_inv hs
        have he := ev8 l es es2 id
        rw [hb, cond_true] at he
        obtain ⟨r0, o0, h0, he⟩ := evFin_inv he
        obtain ⟨h1, h2⟩ := fn_ok mixed plain (gk_ok k10_ok 30) Try.func8 (fun c _ => LoopsOK.none (fun _ _ => rfl) c) h0
        exact ⟨h1, h2.fin he⟩
      · cases hs
noncomputable def go23_4 (t0k : Tk) (t0 : List (List AV)) (t1k : Tk) (t1 : List (List AV)) (t12 : Int) (t13 : Int) : Bool := bif decide (t13 < t12) then bif decide ((0 : Int) ≤ t13) && decide (t13 < (↑t0.length : Int)) then bif decide ((0 : Int) ≤ t13) && decide (t13 < (↑t1.length : Int)) then bif intOf ((t0.getD t13.toNat []).getD (0 : Nat) AV.junk) != intOf ((t1.getD t13.toNat []).getD (0 : Nat) AV.junk) then false else true else false else false else false
noncomputable def nx23_4_5 (t0k : Tk) (t0 : List (List AV)) (t1k : Tk) (t1 : List (List AV)) (t12 : Int) (t13 : Int) : Int := IntKind.i64.wrap (t13 + (1 : Int))
noncomputable def xc23_4_0 (t0k : Tk) (t0 : List (List AV)) (t1k : Tk) (t1 : List (List AV)) (t12 : Int) (t13 : Int) : Bool := bif decide (t13 < t12) then bif decide ((0 : Int) ≤ t13) && decide (t13 < (↑t0.length : Int)) then bif decide ((0 : Int) ≤ t13) && decide (t13 < (↑t1.length : Int)) then intOf ((t0.getD t13.toNat []).getD (0 : Nat) AV.junk) != intOf ((t1.getD t13.toNat []).getD (0 : Nat) AV.junk) else false else false else false
noncomputable def xc23_4_1 (t0k : Tk) (t0 : List (List AV)) (t1k : Tk) (t1 : List (List AV)) (t12 : Int) (t13 : Int) : Bool := bif decide (t13 < t12) then false else true
theorem rd23_4 (rest : Lsp) (t0k : Tk) (t0 : List (List AV)) (t1k : Tk) (t1 : List (List AV)) (t12 : Int) (t13 : Int) : roundV (cfg Try.prog tab 100000 (gk k8 30) rest 23 0 Try.f23.ntmps) (loopAt Try.f23 4) [0, 1, 12, 13] [] [4] [] [AV.sl t0k [Kd.int IntKind.i64] t0, AV.sl t1k [Kd.int IntKind.i64] t1, AV.int IntKind.i64 t12, AV.int IntKind.i64 t13] [] = bif go23_4 t0k t0 t1k t1 t12 t13 then some (Ex.norm, [AV.sl t0k [Kd.int IntKind.i64] t0, AV.sl t1k [Kd.int IntKind.i64] t1, AV.int IntKind.i64 t12, AV.int IntKind.i64 (nx23_4_5 t0k t0 t1k t1 t12 t13)], []) else bif xc23_4_0 t0k t0 t1k t1 t12 t13 then some (Ex.ret, [AV.bool false], []) else bif xc23_4_1 t0k t0 t1k t1 t12 t13 then some (Ex.exit (nat_lit 0), [AV.junk], []) else none := by
  have h : roundV (cfg Try.prog tab 100000 (gk k8 30) rest 23 0 Try.f23.ntmps) (loopAt Try.f23 4) [0, 1, 12, 13] [] [4] [] [AV.sl t0k [Kd.int IntKind.i64] t0, AV.sl t1k [Kd.int IntKind.i64] t1, AV.int IntKind.i64 t12, AV.int IntKind.i64 t13] [] = bif decide (t13 < t12) then bif decide ((0 : Int) ≤ t13) && decide (t13 < (↑t0.length : Int)) then bif decide ((0 : Int) ≤ t13) && decide (t13 < (↑t1.length : Int)) then bif intOf ((t0.getD t13.toNat []).getD (0 : Nat) AV.junk) != intOf ((t1.getD t13.toNat []).getD (0 : Nat) AV.junk) then some (Ex.ret, [AV.bool false], []) else some (Ex.norm, [AV.sl t0k [Kd.int IntKind.i64] t0, AV.sl t1k [Kd.int IntKind.i64] t1, AV.int IntKind.i64 t12, AV.int IntKind.i64 (IntKind.i64.wrap (t13 + (1 : Int)))], []) else none else none else some (Ex.exit (nat_lit 0), [AV.junk], []) := by kernel_rfl
  rw [h]
  clear h
  unfold go23_4 nx23_4_5 xc23_4_0 xc23_4_1
  generalize (intOf ((t0.getD t13.toNat []).getD (0 : Nat) AV.junk) != intOf ((t1.getD t13.toNat []).getD (0 : Nat) AV.junk)) = c0
  generalize (decide ((0 : Int) ≤ t13) && decide (t13 < (↑t0.length : Int))) = c1
  generalize (decide ((0 : Int) ≤ t13) && decide (t13 < (↑t1.length : Int))) = c2
  generalize (decide (t13 < t12)) = c3
  cases c3
  · skip
    rfl
  · skip
    cases c1
    · skip
      rfl
    · skip
      cases c2
      · skip
        rfl
      · skip
        cases c0
        · skip
          rfl
        · skip
          rfl
abbrev pl23_4 : Type := Tk × (List (List AV)) × Tk × (List (List AV)) × Int
abbrev sl23_4 : Type := Int
noncomputable def vt23_4 (a : pl23_4 × sl23_4) : List AV := [AV.sl a.1.1 [Kd.int IntKind.i64] a.1.2.1, AV.sl a.1.2.2.1 [Kd.int IntKind.i64] a.1.2.2.2.1, AV.int IntKind.i64 a.1.2.2.2.2, AV.int IntKind.i64 a.2]
noncomputable def vc23_4 (a : pl23_4 × sl23_4) : List Blk := []
noncomputable def de23_4 (vt : List AV) (vc : List Blk) : Option (pl23_4 × sl23_4) :=
  match vt with
  | [qa0, qa1, qa2, qa3] => (match vc with
  | [] => (match qa0 with
  | AV.sl t0k [Kd.int IntKind.i64] t0 => (match qa1 with
  | AV.sl t1k [Kd.int IntKind.i64] t1 => (match qa2 with
  | AV.int IntKind.i64 t12 => (match qa3 with
  | AV.int IntKind.i64 t13 => (some ((t0k, t0, t1k, t1, t12), t13))
  | _ => none)
  | _ => none)
  | _ => none)
  | _ => none)
  | _ => none)
  | _ => none
theorem de23_4_ok (vt : List AV) (vc : List Blk) (a : pl23_4 × sl23_4) (h : de23_4 vt vc = some a) : vt = vt23_4 a ∧ vc = vc23_4 a := by
  unfold de23_4 at h
  split at h
  rotate_left
  · cases h
  split at h
  rotate_left
  · cases h
  split at h
  rotate_left
  · cases h
  split at h
  rotate_left
  · cases h
  split at h
  rotate_left
  · cases h
  split at h
  rotate_left
  · cases h
  injection h with h
  subst h
  exact ⟨rfl, rfl⟩
noncomputable def g23_4 (p : pl23_4) (s : sl23_4) : Bool := go23_4 p.1 p.2.1 p.2.2.1 p.2.2.2.1 p.2.2.2.2 s
noncomputable def n23_4 (p : pl23_4) (s : sl23_4) : sl23_4 := nx23_4_5 p.1 p.2.1 p.2.2.1 p.2.2.2.1 p.2.2.2.2 s
noncomputable def y23_4 (p : pl23_4) (s : sl23_4) : List (Bool × Out) := [(xc23_4_0 p.1 p.2.1 p.2.2.1 p.2.2.2.1 p.2.2.2.2 s, (Ex.ret, [AV.bool false], []))]
noncomputable def z23_4 (p : pl23_4) (s : sl23_4) : Bool := xc23_4_1 p.1 p.2.1 p.2.2.1 p.2.2.2.1 p.2.2.2.2 s
noncomputable def d23_4 (p : pl23_4) (s : sl23_4) : Out := (Ex.exit (nat_lit 0), [AV.junk], [])
noncomputable def ls23_4 : St → Option (Bool × List (Bool × Ex × St) × Ex × St) := lspOf [0, 1, 12, 13] [] [4] [] Try.f23.ntmps (0 + tab.nid 23) de23_4 (spI g23_4 n23_4 y23_4 z23_4 d23_4)
theorem lo23_4 (rest : Lsp) : LoopOK1 (cfg Try.prog tab 100000 (gk k8 30) (selL 4 ls23_4 rest) 23 0 Try.f23.ntmps) (loopAt Try.f23 4) := LoopOK1.iter (i := 4) (by kernel_rfl) [0, 1, 12, 13] [] [4] [] vt23_4 vc23_4 de23_4 g23_4 n23_4 y23_4 z23_4 d23_4 (fun _ => rfl) de23_4_ok (fun p s => rd23_4 (selL 4 ls23_4 rest) (p.1) (p.2.1) (p.2.2.1) (p.2.2.2.1) (p.2.2.2.2) s) (fun _ _ => rfl)
noncomputable def lsp23 : Lsp := (selL 4 ls23_4 noLsp)
theorem loops23 : ∀ c, Try.f23.body = some c → LoopsOK (cfg Try.prog tab 100000 (gk k8 30) lsp23 23 0 Try.f23.ntmps) c := loops_of [4] (by kernel_rfl) (by kernel_rfl) (fun i hi => by
  simp only [List.mem_cons, List.not_mem_nil, or_false] at hi
  subst hi
  · exact lo23_4 noLsp)
noncomputable def rev23_0 (tk : Tk) (es : List (List AV)) (tk2 : Tk) (es2 : List (List AV)) : sl23_4 := finL (g23_4 (tk, es, tk2, es2, (↑es.length : Int))) (n23_4 (tk, es, tk2, es2, (↑es.length : Int))) (0 : Int)
noncomputable def vev23_0 (tk : Tk) (es : List (List AV)) (tk2 : Tk) (es2 : List (List AV)) : Bool := bif (↑es.length : Int) != (↑es2.length : Int) then false else bif xc23_4_0 tk es tk2 es2 (↑es.length : Int) (rev23_0 tk es tk2 es2) then false else true
noncomputable def vev23_1 (tk : Tk) (es : List (List AV)) (tk2 : Tk) (es2 : List (List AV)) : Bool := bif (↑es.length : Int) != (↑es2.length : Int) then true else bif (spI g23_4 n23_4 y23_4 z23_4 d23_4 ((tk, es, tk2, es2, (↑es.length : Int)), (0 : Int))).fst then true else false
theorem ev23 (tk : Tk) (es : List (List AV)) (tk2 : Tk) (es2 : List (List AV)) : evFin (cfg Try.prog tab 100000 (gk k8 30) lsp23 23 ([] : List Blk).length Try.f23.ntmps) ([] : List Blk).length Try.f23.resultTypes.toList Try.f23 [.sl tk [.int .i64] es, .sl tk2 [.int .i64] es2] [] = bif vev23_1 tk es tk2 es2 then some (true, AV.bool (vev23_0 tk es tk2 es2), []) else none := by
  have h : evFin (cfg Try.prog tab 100000 (gk k8 30) lsp23 23 ([] : List Blk).length Try.f23.ntmps) ([] : List Blk).length Try.f23.resultTypes.toList Try.f23 [.sl tk [.int .i64] es, .sl tk2 [.int .i64] es2] [] = bif (↑es.length : Int) != (↑es2.length : Int) then some (true, AV.bool false, []) else bif (spI g23_4 n23_4 y23_4 z23_4 d23_4 ((tk, es, tk2, es2, (↑es.length : Int)), (0 : Int))).fst then bif xc23_4_0 tk es tk2 es2 (↑es.length : Int) (rev23_0 tk es tk2 es2) then some (true, AV.bool false, []) else some (true, AV.bool true, []) else none := by kernel_rfl
  rw [h]
  clear h
  unfold vev23_0 vev23_1
  generalize ((spI g23_4 n23_4 y23_4 z23_4 d23_4 ((tk, es, tk2, es2, (↑es.length : Int)), (0 : Int))).fst) = c0
  generalize ((↑es.length : Int) != (↑es2.length : Int)) = c1
  generalize (xc23_4_0 tk es tk2 es2 (↑es.length : Int) (rev23_0 tk es tk2 es2)) = c2
  cases c1
  · skip
    cases c0
    · skip
      rfl
    · skip
      cases c2
      · skip
        rfl
      · skip
        rfl
  · skip
    rfl
-- spec vev23_1 tk es tk2 es2 ;; (true, AV.bool (vev23_0 tk es tk2 es2), [])
noncomputable def sp23 : List AV → List Blk → Option (Bool × AV × List Blk)
  | [.sl tk [.int .i64] es, .sl tk2 [.int .i64] es2], [] => spW (vev23_1 tk es tk2 es2) (some ((true, AV.bool (vev23_0 tk es tk2 es2), [])))
  | _, _ => none
noncomputable def k23 : Gam := fun f T C => match Nat.beq f 23 with
  | true => (sp23 T C).or (k8 f T C)
  | false => k8 f T C
theorem k23_ok : GamOK Try.prog k23 := by
  intro f T C r outs h
  unfold k23 at h
  cases hf : Nat.beq f 23 with
  | false => rw [hf] at h; exact k8_ok f T C r outs h
  | true =>
    have hf' := Nat.eq_of_beq_eq_true hf
    subst hf'
    rw [hf] at h
    dsimp only at h
    cases hs : sp23 T C with
    | none => rw [hs] at h; exact k8_ok _ T C r outs h
    | some x =>
      rw [hs] at h
      have hx : x = (true, r, outs) := by simpa using h
      subst hx
      unfold sp23 at hs
      split at hs
      · rename_i tk es tk2 es2
        obtain ⟨hb, rfl, rfl⟩ := spT_inv hs
        have he := ev23 tk es tk2 es2
        rw [hb, cond_true] at he
        obtain ⟨r0, o0, h0, he⟩ := evFin_inv he
        obtain ⟨h1, h2⟩ := fn_ok mixed plain (gk_ok k8_ok 30) Try.func23 loops23 h0
        exact ⟨h1, h2.fin he⟩
      · cases hs
noncomputable def go24_4 (t0k : Tk) (t0 : List (List AV)) (t1k : Tk) (t1 : List (List AV)) (t5 : Int) : Bool := bif decide (t5 < (↑t0.length : Int)) then bif decide ((0 : Int) ≤ t5) && decide (t5 < (↑t0.length : Int)) then bif decide ((0 : Int) ≤ t5) && decide (t5 < (↑t1.length : Int)) then bif intOf ((t0.getD t5.toNat []).getD (0 : Nat) AV.junk) != intOf ((t1.getD t5.toNat []).getD (0 : Nat) AV.junk) then false else true else false else false else false
noncomputable def nx24_4_4 (t0k : Tk) (t0 : List (List AV)) (t1k : Tk) (t1 : List (List AV)) (t5 : Int) : Int := IntKind.i64.wrap (t5 + (1 : Int))
noncomputable def xc24_4_0 (t0k : Tk) (t0 : List (List AV)) (t1k : Tk) (t1 : List (List AV)) (t5 : Int) : Bool := bif decide (t5 < (↑t0.length : Int)) then bif decide ((0 : Int) ≤ t5) && decide (t5 < (↑t0.length : Int)) then bif decide ((0 : Int) ≤ t5) && decide (t5 < (↑t1.length : Int)) then intOf ((t0.getD t5.toNat []).getD (0 : Nat) AV.junk) != intOf ((t1.getD t5.toNat []).getD (0 : Nat) AV.junk) else false else false else false
noncomputable def xc24_4_1 (t0k : Tk) (t0 : List (List AV)) (t1k : Tk) (t1 : List (List AV)) (t5 : Int) : Bool := bif decide (t5 < (↑t0.length : Int)) then false else true
theorem rd24_4 (rest : Lsp) (t0k : Tk) (t0 : List (List AV)) (t1k : Tk) (t1 : List (List AV)) (t5 : Int) : roundV (cfg Try.prog tab 100000 (gk k23 30) rest 24 0 Try.f24.ntmps) (loopAt Try.f24 4) [0, 1, 5] [] [4] [] [AV.sl t0k [Kd.int IntKind.i64] t0, AV.sl t1k [Kd.int IntKind.i64] t1, AV.int IntKind.i64 t5] [] = bif go24_4 t0k t0 t1k t1 t5 then some (Ex.norm, [AV.sl t0k [Kd.int IntKind.i64] t0, AV.sl t1k [Kd.int IntKind.i64] t1, AV.int IntKind.i64 (nx24_4_4 t0k t0 t1k t1 t5)], []) else bif xc24_4_0 t0k t0 t1k t1 t5 then some (Ex.ret, [AV.bool false], []) else bif xc24_4_1 t0k t0 t1k t1 t5 then some (Ex.exit (nat_lit 0), [AV.junk], []) else none := by
  have h : roundV (cfg Try.prog tab 100000 (gk k23 30) rest 24 0 Try.f24.ntmps) (loopAt Try.f24 4) [0, 1, 5] [] [4] [] [AV.sl t0k [Kd.int IntKind.i64] t0, AV.sl t1k [Kd.int IntKind.i64] t1, AV.int IntKind.i64 t5] [] = bif decide (t5 < (↑t0.length : Int)) then bif decide ((0 : Int) ≤ t5) && decide (t5 < (↑t0.length : Int)) then bif decide ((0 : Int) ≤ t5) && decide (t5 < (↑t1.length : Int)) then bif intOf ((t0.getD t5.toNat []).getD (0 : Nat) AV.junk) != intOf ((t1.getD t5.toNat []).getD (0 : Nat) AV.junk) then some (Ex.ret, [AV.bool false], []) else some (Ex.norm, [AV.sl t0k [Kd.int IntKind.i64] t0, AV.sl t1k [Kd.int IntKind.i64] t1, AV.int IntKind.i64 (IntKind.i64.wrap (t5 + (1 : Int)))], []) else none else none else some (Ex.exit (nat_lit 0), [AV.junk], []) := by kernel_rfl
  rw [h]
  clear h
  unfold go24_4 nx24_4_4 xc24_4_0 xc24_4_1
  generalize (intOf ((t0.getD t5.toNat []).getD (0 : Nat) AV.junk) != intOf ((t1.getD t5.toNat []).getD (0 : Nat) AV.junk)) = c0
  generalize (decide ((0 : Int) ≤ t5) && decide (t5 < (↑t0.length : Int))) = c1
  generalize (decide ((0 : Int) ≤ t5) && decide (t5 < (↑t1.length : Int))) = c2
  generalize (decide (t5 < (↑t0.length : Int))) = c3
  cases c3
  · skip
    rfl
  · skip
    cases c1
    · skip
      rfl
    · skip
      cases c2
      · skip
        rfl
      · skip
        cases c0
        · skip
          rfl
        · skip
          rfl
abbrev pl24_4 : Type := Tk × (List (List AV)) × Tk × (List (List AV))
abbrev sl24_4 : Type := Int
noncomputable def vt24_4 (a : pl24_4 × sl24_4) : List AV := [AV.sl a.1.1 [Kd.int IntKind.i64] a.1.2.1, AV.sl a.1.2.2.1 [Kd.int IntKind.i64] a.1.2.2.2, AV.int IntKind.i64 a.2]
noncomputable def vc24_4 (a : pl24_4 × sl24_4) : List Blk := []
noncomputable def de24_4 (vt : List AV) (vc : List Blk) : Option (pl24_4 × sl24_4) :=
  match vt with
  | [qa0, qa1, qa2] => (match vc with
  | [] => (match qa0 with
  | AV.sl t0k [Kd.int IntKind.i64] t0 => (match qa1 with
  | AV.sl t1k [Kd.int IntKind.i64] t1 => (match qa2 with
  | AV.int IntKind.i64 t5 => (some ((t0k, t0, t1k, t1), t5))
  | _ => none)
  | _ => none)
  | _ => none)
  | _ => none)
  | _ => none
theorem de24_4_ok (vt : List AV) (vc : List Blk) (a : pl24_4 × sl24_4) (h : de24_4 vt vc = some a) : vt = vt24_4 a ∧ vc = vc24_4 a := by
  unfold de24_4 at h
  split at h
  rotate_left
  · cases h
  split at h
  rotate_left
  · cases h
  split at h
  rotate_left
  · cases h
  split at h
  rotate_left
  · cases h
  split at h
  rotate_left
  · cases h
  injection h with h
  subst h
  exact ⟨rfl, rfl⟩
noncomputable def g24_4 (p : pl24_4) (s : sl24_4) : Bool := go24_4 p.1 p.2.1 p.2.2.1 p.2.2.2 s
noncomputable def n24_4 (p : pl24_4) (s : sl24_4) : sl24_4 := nx24_4_4 p.1 p.2.1 p.2.2.1 p.2.2.2 s
noncomputable def y24_4 (p : pl24_4) (s : sl24_4) : List (Bool × Out) := [(xc24_4_0 p.1 p.2.1 p.2.2.1 p.2.2.2 s, (Ex.ret, [AV.bool false], []))]
noncomputable def z24_4 (p : pl24_4) (s : sl24_4) : Bool := xc24_4_1 p.1 p.2.1 p.2.2.1 p.2.2.2 s
noncomputable def d24_4 (p : pl24_4) (s : sl24_4) : Out := (Ex.exit (nat_lit 0), [AV.junk], [])
noncomputable def ls24_4 : St → Option (Bool × List (Bool × Ex × St) × Ex × St) := lspOf [0, 1, 5] [] [4] [] Try.f24.ntmps (0 + tab.nid 24) de24_4 (spI g24_4 n24_4 y24_4 z24_4 d24_4)
theorem lo24_4 (rest : Lsp) : LoopOK1 (cfg Try.prog tab 100000 (gk k23 30) (selL 4 ls24_4 rest) 24 0 Try.f24.ntmps) (loopAt Try.f24 4) := LoopOK1.iter (i := 4) (by kernel_rfl) [0, 1, 5] [] [4] [] vt24_4 vc24_4 de24_4 g24_4 n24_4 y24_4 z24_4 d24_4 (fun _ => rfl) de24_4_ok (fun p s => rd24_4 (selL 4 ls24_4 rest) (p.1) (p.2.1) (p.2.2.1) (p.2.2.2) s) (fun _ _ => rfl)
noncomputable def lsp24 : Lsp := (selL 4 ls24_4 noLsp)
theorem loops24 : ∀ c, Try.f24.body = some c → LoopsOK (cfg Try.prog tab 100000 (gk k23 30) lsp24 24 0 Try.f24.ntmps) c := loops_of [4] (by kernel_rfl) (by kernel_rfl) (fun i hi => by
  simp only [List.mem_cons, List.not_mem_nil, or_false] at hi
  subst hi
  · exact lo24_4 noLsp)
noncomputable def rev24_0 (tk : Tk) (es : List (List AV)) (tk2 : Tk) (es2 : List (List AV)) : sl24_4 := finL (g24_4 (tk, es, tk2, es2)) (n24_4 (tk, es, tk2, es2)) (0 : Int)
noncomputable def vev24_0 (tk : Tk) (es : List (List AV)) (tk2 : Tk) (es2 : List (List AV)) : Bool := bif (↑es.length : Int) != (↑es2.length : Int) then false else bif xc24_4_0 tk es tk2 es2 (rev24_0 tk es tk2 es2) then false else true
noncomputable def vev24_1 (tk : Tk) (es : List (List AV)) (tk2 : Tk) (es2 : List (List AV)) : Bool := bif (↑es.length : Int) != (↑es2.length : Int) then true else bif (spI g24_4 n24_4 y24_4 z24_4 d24_4 ((tk, es, tk2, es2), (0 : Int))).fst then true else false
theorem ev24 (tk : Tk) (es : List (List AV)) (tk2 : Tk) (es2 : List (List AV)) : evFin (cfg Try.prog tab 100000 (gk k23 30) lsp24 24 ([] : List Blk).length Try.f24.ntmps) ([] : List Blk).length Try.f24.resultTypes.toList Try.f24 [.sl tk [.int .i64] es, .sl tk2 [.int .i64] es2] [] = bif vev24_1 tk es tk2 es2 then some (true, AV.bool (vev24_0 tk es tk2 es2), []) else none := by
  have h : evFin (cfg Try.prog tab 100000 (gk k23 30) lsp24 24 ([] : List Blk).length Try.f24.ntmps) ([] : List Blk).length Try.f24.resultTypes.toList Try.f24 [.sl tk [.int .i64] es, .sl tk2 [.int .i64] es2] [] = bif (↑es.length : Int) != (↑es2.length : Int) then some (true, AV.bool false, []) else bif (spI g24_4 n24_4 y24_4 z24_4 d24_4 ((tk, es, tk2, es2), (0 : Int))).fst then bif xc24_4_0 tk es tk2 es2 (rev24_0 tk es tk2 es2) then some (true, AV.bool false, []) else some (true, AV.bool true, []) else none := by kernel_rfl
  rw [h]
  clear h
  unfold vev24_0 vev24_1
  generalize ((spI g24_4 n24_4 y24_4 z24_4 d24_4 ((tk, es, tk2, es2), (0 : Int))).fst) = c0
  generalize ((↑es.length : Int) != (↑es2.length : Int)) = c1
  generalize (xc24_4_0 tk es tk2 es2 (rev24_0 tk es tk2 es2)) = c2
  cases c1
  · skip
    cases c0
    · skip
      rfl
    · skip
      cases c2
      · skip
        rfl
      · skip
        rfl
  · skip
    rfl
-- spec vev24_1 tk es tk2 es2 ;; (true, AV.bool (vev24_0 tk es tk2 es2), [])
noncomputable def sp24 : List AV → List Blk → Option (Bool × AV × List Blk)
  | [.sl tk [.int .i64] es, .sl tk2 [.int .i64] es2], [] => spW (vev24_1 tk es tk2 es2) (some ((true, AV.bool (vev24_0 tk es tk2 es2), [])))
  | _, _ => none
noncomputable def k24 : Gam := fun f T C => match Nat.beq f 24 with
  | true => (sp24 T C).or (k23 f T C)
  | false => k23 f T C
theorem k24_ok : GamOK Try.prog k24 := by
  intro f T C r outs h
  unfold k24 at h
  cases hf : Nat.beq f 24 with
  | false => rw [hf] at h; exact k23_ok f T C r outs h
  | true =>
    have hf' := Nat.eq_of_beq_eq_true hf
    subst hf'
    rw [hf] at h
    dsimp only at h
    cases hs : sp24 T C with
    | none => rw [hs] at h; exact k23_ok _ T C r outs h
    | some x =>
      rw [hs] at h
      have hx : x = (true, r, outs) := by simpa using h
      subst hx
      unfold sp24 at hs
      split at hs
      · rename_i tk es tk2 es2
        obtain ⟨hb, rfl, rfl⟩ := spT_inv hs
        have he := ev24 tk es tk2 es2
        rw [hb, cond_true] at he
        obtain ⟨r0, o0, h0, he⟩ := evFin_inv he
        obtain ⟨h1, h2⟩ := fn_ok mixed plain (gk_ok k23_ok 30) Try.func24 loops24 h0
        exact ⟨h1, h2.fin he⟩
      · cases hs
noncomputable def vev11_0 (l : Int) (es : List (List AV)) (es2 : List (List AV)) (l2 : Int) (es3 : List (List AV)) (es4 : List (List AV)) : Bool := bif l == l2 then bif vev23_1 Tk.imm es Tk.imm es3 then bif bif true then vev23_0 Tk.imm es Tk.imm es3 else false then bif vev23_1 Tk.imm es2 Tk.imm es4 then bif true then vev23_0 Tk.imm es2 Tk.imm es4 else false else false else false else false else false
noncomputable def vev11_1 (l : Int) (es : List (List AV)) (es2 : List (List AV)) (l2 : Int) (es3 : List (List AV)) (es4 : List (List AV)) : Bool := bif bif l == l2 then bif vev23_1 Tk.imm es Tk.imm es3 then bif vev23_0 Tk.imm es Tk.imm es3 then vev23_1 Tk.imm es2 Tk.imm es4 else true else false else true then true else false
theorem ev11 (l : Int) (es : List (List AV)) (es2 : List (List AV)) (l2 : Int) (es3 : List (List AV)) (es4 : List (List AV)) : evFin (cfg Try.prog tab 100000 (gk k24 30) noLsp 11 ([] : List Blk).length Try.f11.ntmps) ([] : List Blk).length Try.f11.resultTypes.toList Try.f11 [.agg [.int .i64 l, .sl .imm [.int .i64] es, .sl .imm [.int .i64] es2], .agg [.int .i64 l2, .sl .imm [.int .i64] es3, .sl .imm [.int .i64] es4]] [] = bif vev11_1 l es es2 l2 es3 es4 then some (true, AV.bool (vev11_0 l es es2 l2 es3 es4), []) else none := by
  have h : evFin (cfg Try.prog tab 100000 (gk k24 30) noLsp 11 ([] : List Blk).length Try.f11.ntmps) ([] : List Blk).length Try.f11.resultTypes.toList Try.f11 [.agg [.int .i64 l, .sl .imm [.int .i64] es, .sl .imm [.int .i64] es2], .agg [.int .i64 l2, .sl .imm [.int .i64] es3, .sl .imm [.int .i64] es4]] [] = bif bif l == l2 then bif vev23_1 Tk.imm es Tk.imm es3 then bif bif true then vev23_0 Tk.imm es Tk.imm es3 else false then bif vev23_1 Tk.imm es2 Tk.imm es4 then true else false else true else false else true then some (true, AV.bool (bif l == l2 then bif vev23_1 Tk.imm es Tk.imm es3 then bif bif true then vev23_0 Tk.imm es Tk.imm es3 else false then bif vev23_1 Tk.imm es2 Tk.imm es4 then bif true then vev23_0 Tk.imm es2 Tk.imm es4 else false else false else false else false else false), []) else none := by kernel_rfl
  rw [h]
  clear h
  unfold vev11_0 vev11_1
  generalize (l == l2) = c0
  generalize (vev23_1 Tk.imm es2 Tk.imm es4) = c1
  generalize (vev23_1 Tk.imm es Tk.imm es3) = c2
  generalize (vev23_0 Tk.imm es Tk.imm es3) = c3
  cases c0
  · skip
    rfl
  · skip
    cases c2
    · skip
      rfl
    · skip
      cases c3
      · skip
        rfl
      · skip
        cases c1
        · skip
          rfl
        · skip
          rfl
-- spec vev11_1 l es es2 l2 es3 es4 ;; (true, AV.bool (vev11_0 l es es2 l2 es3 es4), [])
noncomputable def sp11 : List AV → List Blk → Option (Bool × AV × List Blk)
  | [.agg [.int .i64 l, .sl .imm [.int .i64] es, .sl .imm [.int .i64] es2], .agg [.int .i64 l2, .sl .imm [.int .i64] es3, .sl .imm [.int .i64] es4]], [] => spW (vev11_1 l es es2 l2 es3 es4) (some ((true, AV.bool (vev11_0 l es es2 l2 es3 es4), [])))
  | _, _ => none
noncomputable def k11 : Gam := fun f T C => match Nat.beq f 11 with
  | true => (sp11 T C).or (k24 f T C)
  | false => k24 f T C
theorem k11_ok : GamOK Try.prog k11 := by
  intro f T C r outs h
  unfold k11 at h
  cases hf : Nat.beq f 11 with
  | false => rw [hf] at h; exact k24_ok f T C r outs h
  | true =>
    have hf' := Nat.eq_of_beq_eq_true hf
    subst hf'
    rw [hf] at h
    dsimp only at h
    cases hs : sp11 T C with
    | none => rw [hs] at h; exact k24_ok _ T C r outs h
    | some x =>
      rw [hs] at h
      have hx : x = (true, r, outs) := by simpa using h
      subst hx
      unfold sp11 at hs
      split at hs
      · rename_i l es es2 l2 es3 es4
        obtain ⟨hb, rfl, rfl⟩ := spT_inv hs
        have he := ev11 l es es2 l2 es3 es4
        rw [hb, cond_true] at he
        obtain ⟨r0, o0, h0, he⟩ := evFin_inv he
        obtain ⟨h1, h2⟩ := fn_ok mixed plain (gk_ok k24_ok 30) Try.func11 (fun c _ => LoopsOK.none (fun _ _ => rfl) c) h0
        exact ⟨h1, h2.fin he⟩
      · cases hs
noncomputable def vev12_0 (l : Int) (es : List (List AV)) (es2 : List (List AV)) (l2 : Int) (es3 : List (List AV)) (es4 : List (List AV)) : Bool := bif l == l2 then bif vev24_1 Tk.imm es Tk.imm es3 then bif bif true then vev24_0 Tk.imm es Tk.imm es3 else false then bif vev24_1 Tk.imm es2 Tk.imm es4 then bif true then vev24_0 Tk.imm es2 Tk.imm es4 else false else false else false else false else false
noncomputable def vev12_1 (l : Int) (es : List (List AV)) (es2 : List (List AV)) (l2 : Int) (es3 : List (List AV)) (es4 : List (List AV)) : Bool := bif bif l == l2 then bif vev24_1 Tk.imm es Tk.imm es3 then bif vev24_0 Tk.imm es Tk.imm es3 then vev24_1 Tk.imm es2 Tk.imm es4 else true else false else true then true else false
theorem ev12 (l : Int) (es : List (List AV)) (es2 : List (List AV)) (l2 : Int) (es3 : List (List AV)) (es4 : List (List AV)) : evFin (cfg Try.prog tab 100000 (gk k11 30) noLsp 12 ([] : List Blk).length Try.f12.ntmps) ([] : List Blk).length Try.f12.resultTypes.toList Try.f12 [.agg [.int .i64 l, .sl .imm [.int .i64] es, .sl .imm [.int .i64] es2], .agg [.int .i64 l2, .sl .imm [.int .i64] es3, .sl .imm [.int .i64] es4]] [] = bif vev12_1 l es es2 l2 es3 es4 then some (true, AV.bool (vev12_0 l es es2 l2 es3 es4), []) else none := by
  have h : evFin (cfg Try.prog tab 100000 (gk k11 30) noLsp 12 ([] : List Blk).length Try.f12.ntmps) ([] : List Blk).length Try.f12.resultTypes.toList Try.f12 [.agg [.int .i64 l, .sl .imm [.int .i64] es, .sl .imm [.int .i64] es2], .agg [.int .i64 l2, .sl .imm [.int .i64] es3, .sl .imm [.int .i64] es4]] [] = bif bif l == l2 then bif vev24_1 Tk.imm es Tk.imm es3 then bif bif true then vev24_0 Tk.imm es Tk.imm es3 else false then bif vev24_1 Tk.imm es2 Tk.imm es4 then true else false else true else false else true then some (true, AV.bool (bif l == l2 then bif vev24_1 Tk.imm es Tk.imm es3 then bif bif true then vev24_0 Tk.imm es Tk.imm es3 else false then bif vev24_1 Tk.imm es2 Tk.imm es4 then bif true then vev24_0 Tk.imm es2 Tk.imm es4 else false else false else false else false else false), []) else none := by kernel_rfl
  rw [h]
  clear h
  unfold vev12_0 vev12_1
  generalize (l == l2) = c0
  generalize (vev24_1 Tk.imm es2 Tk.imm es4) = c1
  generalize (vev24_1 Tk.imm es Tk.imm es3) = c2
  generalize (vev24_0 Tk.imm es Tk.imm es3) = c3
  cases c0
  · skip
    rfl
  · skip
    cases c2
    · skip
      rfl
    · skip
      cases c3
      · skip
        rfl
      · skip
        cases c1
        · skip
          rfl
        · skip
          rfl
-- spec vev12_1 l es es2 l2 es3 es4 ;; (true, AV.bool (vev12_0 l es es2 l2 es3 es4), [])
noncomputable def sp12 : List AV → List Blk → Option (Bool × AV × List Blk)
  | [.agg [.int .i64 l, .sl .imm [.int .i64] es, .sl .imm [.int .i64] es2], .agg [.int .i64 l2, .sl .imm [.int .i64] es3, .sl .imm [.int .i64] es4]], [] => spW (vev12_1 l es es2 l2 es3 es4) (some ((true, AV.bool (vev12_0 l es es2 l2 es3 es4), [])))
  | _, _ => none
noncomputable def k12 : Gam := fun f T C => match Nat.beq f 12 with
  | true => (sp12 T C).or (k11 f T C)
  | false => k11 f T C
theorem k12_ok : GamOK Try.prog k12 := by
  intro f T C r outs h
  unfold k12 at h
  cases hf : Nat.beq f 12 with
  | false => rw [hf] at h; exact k11_ok f T C r outs h
  | true =>
    have hf' := Nat.eq_of_beq_eq_true hf
    subst hf'
    rw [hf] at h
    dsimp only at h
    cases hs : sp12 T C with
    | none => rw [hs] at h; exact k11_ok _ T C r outs h
    | some x =>
      rw [hs] at h
      have hx : x = (true, r, outs) := by simpa using h
      subst hx
      unfold sp12 at hs
      split at hs
      · rename_i l es es2 l2 es3 es4
        obtain ⟨hb, rfl, rfl⟩ := spT_inv hs
        have he := ev12 l es es2 l2 es3 es4
        rw [hb, cond_true] at he
        obtain ⟨r0, o0, h0, he⟩ := evFin_inv he
        obtain ⟨h1, h2⟩ := fn_ok mixed plain (gk_ok k11_ok 30) Try.func12 (fun c _ => LoopsOK.none (fun _ _ => rfl) c) h0
        exact ⟨h1, h2.fin he⟩
      · cases hs
noncomputable def vev5_0 (l : Int) (es : List (List AV)) (es2 : List (List AV)) : Bool := bif decide ((↑es.length : Int) ≤ (40 : Int)) then bif true then decide ((↑es2.length : Int) ≤ (40 : Int)) else false else false
theorem ev5 (l : Int) (es : List (List AV)) (es2 : List (List AV)) : evFin (cfg Try.prog tab 100000 (gk k12 30) noLsp 5 ([] : List Blk).length Try.f5.ntmps) ([] : List Blk).length Try.f5.resultTypes.toList Try.f5 [.agg [.int .i64 l, .sl .imm [.int .i64] es, .sl .imm [.int .i64] es2]] [] = bif true then some (true, AV.bool (vev5_0 l es es2), []) else none := by
  have h : evFin (cfg Try.prog tab 100000 (gk k12 30) noLsp 5 ([] : List Blk).length Try.f5.ntmps) ([] : List Blk).length Try.f5.resultTypes.toList Try.f5 [.agg [.int .i64 l, .sl .imm [.int .i64] es, .sl .imm [.int .i64] es2]] [] = bif bif decide ((↑es.length : Int) ≤ (40 : Int)) then true else true then some (true, AV.bool (bif decide ((↑es.length : Int) ≤ (40 : Int)) then bif true then decide ((↑es2.length : Int) ≤ (40 : Int)) else false else false), []) else none := by kernel_rfl
  rw [h]
  clear h
  unfold vev5_0
  generalize (decide ((↑es.length : Int) ≤ (40 : Int))) = c0
  cases c0
  · skip
    rfl
  · skip
    rfl
-- spec true ;; (true, AV.bool (vev5_0 l es es2), [])
noncomputable def sp5 : List AV → List Blk → Option (Bool × AV × List Blk)
  | [.agg [.int .i64 l, .sl .imm [.int .i64] es, .sl .imm [.int .i64] es2]], [] => spW (true) (some ((true, AV.bool (vev5_0 l es es2), [])))
  | _, _ => none
noncomputable def k5 : Gam := fun f T C => match Nat.beq f 5 with
  | true => (sp5 T C).or (k12 f T C)
  | false => k12 f T C
theorem k5_ok : GamOK Try.prog k5 := by
  intro f T C r outs h
  unfold k5 at h
  cases hf : Nat.beq f 5 with
  | false => rw [hf] at h; exact k12_ok f T C r outs h
  | true =>
    have hf' := Nat.eq_of_beq_eq_true hf
    subst hf'
    rw [hf] at h
    dsimp only at h
    cases hs : sp5 T C with
    | none => rw [hs] at h; exact k12_ok _ T C r outs h
    | some x =>
      rw [hs] at h
      have hx : x = (true, r, outs) := by simpa using h
      subst hx
      unfold sp5 at hs
      split at hs
      · rename_i l es es2
        obtain ⟨hb, rfl, rfl⟩ := spT_inv hs
        have he := ev5 l es es2
        obtain ⟨r0, o0, h0, he⟩ := evFin_inv he
        obtain ⟨h1, h2⟩ := fn_ok mixed plain (gk_ok k12_ok 30) Try.func5 (fun c _ => LoopsOK.none (fun _ _ => rfl) c) h0
        exact ⟨h1, h2.fin he⟩
      · cases hs
noncomputable def vev3_0 (l : Int) (es : List (List AV)) (es2 : List (List AV)) (l2 : Int) (es3 : List (List AV)) (es4 : List (List AV)) (id : Int) : Bool := bif bif !vev5_0 l es es2 then true else !vev5_0 l2 es3 es4 then true else bif vev7_1 l es es2 id then bif vev8_1 l es es2 id then bif vev7_0 l es es2 id == vev8_0 l es es2 id then bif vev9_1 l Tk.imm es Tk.imm es2 then bif vev10_1 l Tk.imm es Tk.imm es2 then bif bif true then vev9_0 l Tk.imm es Tk.imm es2 == vev10_0 l Tk.imm es Tk.imm es2 else false then bif vev11_1 l es es2 l2 es3 es4 then bif vev12_1 l es es2 l2 es3 es4 then bif bif true then vev11_0 l es es2 l2 es3 es4 == vev12_0 l es es2 l2 es3 es4 else false then bif true then true else false else false else false else false else false else false else false else false else false else false
noncomputable def vev3_1 (l : Int) (es : List (List AV)) (es2 : List (List AV)) (l2 : Int) (es3 : List (List AV)) (es4 : List (List AV)) (id : Int) : Bool := bif bif !vev5_0 l es es2 then true else !vev5_0 l2 es3 es4 then true else bif bif vev7_1 l es es2 id then bif vev8_1 l es es2 id then bif vev7_0 l es es2 id == vev8_0 l es es2 id then bif vev9_1 l Tk.imm es Tk.imm es2 then bif vev10_1 l Tk.imm es Tk.imm es2 then bif vev9_0 l Tk.imm es Tk.imm es2 == vev10_0 l Tk.imm es Tk.imm es2 then bif vev11_1 l es es2 l2 es3 es4 then vev12_1 l es es2 l2 es3 es4 else false else true else false else false else true else false else false then true else false
theorem ev3 (l : Int) (es : List (List AV)) (es2 : List (List AV)) (l2 : Int) (es3 : List (List AV)) (es4 : List (List AV)) (id : Int) : evFun (cfg Try.prog tab 100000 (gk k5 30) noLsp 3 ([] : List Blk).length Try.f3.ntmps) Try.f3 [.agg [.int .i64 l, .sl .imm [.int .i64] es, .sl .imm [.int .i64] es2], .agg [.int .i64 l2, .sl .imm [.int .i64] es3, .sl .imm [.int .i64] es4], .int .i64 id] [] = bif vev3_1 l es es2 l2 es3 es4 id then some (AV.bool (vev3_0 l es es2 l2 es3 es4 id), []) else none := by
  have h : evFun (cfg Try.prog tab 100000 (gk k5 30) noLsp 3 ([] : List Blk).length Try.f3.ntmps) Try.f3 [.agg [.int .i64 l, .sl .imm [.int .i64] es, .sl .imm [.int .i64] es2], .agg [.int .i64 l2, .sl .imm [.int .i64] es3, .sl .imm [.int .i64] es4], .int .i64 id] [] = bif bif !vev5_0 l es es2 then true else true then bif bif !vev5_0 l es es2 then true else bif false then true else !vev5_0 l2 es3 es4 then some (AV.bool true, []) else bif bif vev7_1 l es es2 id then bif vev8_1 l es es2 id then bif vev7_0 l es es2 id == vev8_0 l es es2 id then bif vev9_1 l Tk.imm es Tk.imm es2 then bif vev10_1 l Tk.imm es Tk.imm es2 then bif bif true then vev9_0 l Tk.imm es Tk.imm es2 == vev10_0 l Tk.imm es Tk.imm es2 else false then bif vev11_1 l es es2 l2 es3 es4 then bif vev12_1 l es es2 l2 es3 es4 then bif bif true then vev11_0 l es es2 l2 es3 es4 == vev12_0 l es es2 l2 es3 es4 else false then true else true else false else false else true else false else false else true else false else false then some (AV.bool (bif vev7_1 l es es2 id then bif vev8_1 l es es2 id then bif vev7_0 l es es2 id == vev8_0 l es es2 id then bif vev9_1 l Tk.imm es Tk.imm es2 then bif vev10_1 l Tk.imm es Tk.imm es2 then bif bif true then vev9_0 l Tk.imm es Tk.imm es2 == vev10_0 l Tk.imm es Tk.imm es2 else false then bif vev11_1 l es es2 l2 es3 es4 then bif vev12_1 l es es2 l2 es3 es4 then bif bif true then vev11_0 l es es2 l2 es3 es4 == vev12_0 l es es2 l2 es3 es4 else false then bif true then true else false else false else false else false else false else false else false else false else false else false), []) else none else none := by kernel_rfl
  rw [h]
  clear h
  unfold vev3_0 vev3_1
  generalize (vev11_0 l es es2 l2 es3 es4 == vev12_0 l es es2 l2 es3 es4) = c0
  generalize (vev9_0 l Tk.imm es Tk.imm es2 == vev10_0 l Tk.imm es Tk.imm es2) = c1
  generalize (vev7_0 l es es2 id == vev8_0 l es es2 id) = c2
  generalize (vev11_1 l es es2 l2 es3 es4) = c3
  generalize (vev12_1 l es es2 l2 es3 es4) = c4
  generalize (vev9_1 l Tk.imm es Tk.imm es2) = c5
  generalize (vev10_1 l Tk.imm es Tk.imm es2) = c6
  generalize (!vev5_0 l es es2) = c7
  generalize (vev7_1 l es es2 id) = c8
  generalize (vev8_1 l es es2 id) = c9
  generalize (!vev5_0 l2 es3 es4) = c10
  cases c7
  · skip
    cases c10
    · skip
      cases c8
      · skip
        rfl
      · skip
        cases c9
        · skip
          rfl
        · skip
          cases c2
          · skip
            rfl
          · skip
            cases c5
            · skip
              rfl
            · skip
              cases c6
              · skip
                rfl
              · skip
                cases c1
                · skip
                  rfl
                · skip
                  cases c3
                  · skip
                    rfl
                  · skip
                    cases c4
                    · skip
                      rfl
                    · skip
                      cases c0
                      · skip
                        rfl
                      · skip
                        rfl
    · skip
      rfl
  · skip
    rfl
-- spec vev3_1 l es es2 l2 es3 es4 id ;; (AV.bool (vev3_0 l es es2 l2 es3 es4 id), [])
-- law 3: loops (fun c _ => LoopsOK.none (fun _ _ => rfl) c) gam k5
end Go.Proofs.Gv
