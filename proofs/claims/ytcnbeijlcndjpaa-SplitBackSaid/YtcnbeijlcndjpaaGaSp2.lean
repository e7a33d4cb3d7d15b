import Derived.Test.YtcnbeijlcndjpaaGt
import Derived.KernelRfl
import Derived.Test.YtcnbeijlcndjpaaGwF
import Derived.Test.YtcnbeijlcndjpaaGaSp
namespace Go.Proofs.Gv
open Go.Proofs
set_option linter.unusedVariables false
noncomputable def go30_3 (t1 : List (List AV)) (t6 : Int) (t16 : Int) (t17 : Int) (b0_0 : Int) (b0_1 : List UInt8) (b0_2 : Bool) : Bool := bif decide (t17 < t16) then bif decide ((0 : Int) ≤ t17) && decide (t17 < (↑t1.length : Int)) then bif decide ((0 : Int) ≤ IntKind.i64.wrap (b0_0 + t17)) && decide (IntKind.i64.wrap (b0_0 + t17) < (↑(ByteArray.mk #[(80 : UInt8), (82 : UInt8), (73 : UInt8), (32 : UInt8), (42 : UInt8), (32 : UInt8), (72 : UInt8), (84 : UInt8), (84 : UInt8), (80 : UInt8), (47 : UInt8), (50 : UInt8), (46 : UInt8), (48 : UInt8), (13 : UInt8), (10 : UInt8), (13 : UInt8), (10 : UInt8), (83 : UInt8), (77 : UInt8), (13 : UInt8), (10 : UInt8), (13 : UInt8), (10 : UInt8)]).data.toList.length : Int)) then bif intOf ((t1.getD t17.toNat []).getD (0 : Nat) AV.junk) != (↑((ByteArray.mk #[(80 : UInt8), (82 : UInt8), (73 : UInt8), (32 : UInt8), (42 : UInt8), (32 : UInt8), (72 : UInt8), (84 : UInt8), (84 : UInt8), (80 : UInt8), (47 : UInt8), (50 : UInt8), (46 : UInt8), (48 : UInt8), (13 : UInt8), (10 : UInt8), (13 : UInt8), (10 : UInt8), (83 : UInt8), (77 : UInt8), (13 : UInt8), (10 : UInt8), (13 : UInt8), (10 : UInt8)]).data.toList.getD (IntKind.i64.wrap (b0_0 + t17)).toNat (0 : UInt8)).toNat : Int) then false else true else false else false else false
noncomputable def nx30_3_3 (t1 : List (List AV)) (t6 : Int) (t16 : Int) (t17 : Int) (b0_0 : Int) (b0_1 : List UInt8) (b0_2 : Bool) : Int := IntKind.i64.wrap (t17 + (1 : Int))
noncomputable def xc30_3_0 (t1 : List (List AV)) (t6 : Int) (t16 : Int) (t17 : Int) (b0_0 : Int) (b0_1 : List UInt8) (b0_2 : Bool) : Bool := bif decide (t17 < t16) then bif decide ((0 : Int) ≤ t17) && decide (t17 < (↑t1.length : Int)) then bif decide ((0 : Int) ≤ IntKind.i64.wrap (b0_0 + t17)) && decide (IntKind.i64.wrap (b0_0 + t17) < (↑(ByteArray.mk #[(80 : UInt8), (82 : UInt8), (73 : UInt8), (32 : UInt8), (42 : UInt8), (32 : UInt8), (72 : UInt8), (84 : UInt8), (84 : UInt8), (80 : UInt8), (47 : UInt8), (50 : UInt8), (46 : UInt8), (48 : UInt8), (13 : UInt8), (10 : UInt8), (13 : UInt8), (10 : UInt8), (83 : UInt8), (77 : UInt8), (13 : UInt8), (10 : UInt8), (13 : UInt8), (10 : UInt8)]).data.toList.length : Int)) then intOf ((t1.getD t17.toNat []).getD (0 : Nat) AV.junk) != (↑((ByteArray.mk #[(80 : UInt8), (82 : UInt8), (73 : UInt8), (32 : UInt8), (42 : UInt8), (32 : UInt8), (72 : UInt8), (84 : UInt8), (84 : UInt8), (80 : UInt8), (47 : UInt8), (50 : UInt8), (46 : UInt8), (48 : UInt8), (13 : UInt8), (10 : UInt8), (13 : UInt8), (10 : UInt8), (83 : UInt8), (77 : UInt8), (13 : UInt8), (10 : UInt8), (13 : UInt8), (10 : UInt8)]).data.toList.getD (IntKind.i64.wrap (b0_0 + t17)).toNat (0 : UInt8)).toNat : Int) else false else false else false
noncomputable def xc30_3_1 (t1 : List (List AV)) (t6 : Int) (t16 : Int) (t17 : Int) (b0_0 : Int) (b0_1 : List UInt8) (b0_2 : Bool) : Bool := bif decide (t17 < t16) then false else true
theorem rd30_3 (rest : Lsp) (t1 : List (List AV)) (t6 : Int) (t16 : Int) (t17 : Int) (b0_0 : Int) (b0_1 : List UInt8) (b0_2 : Bool) : roundV (cfg Try.prog tab 100000 (gk k27 30) rest 30 1 Try.f30.ntmps) (loopAt Try.f30 3) [0, 1, 6, 16, 17] [0] [0, 1, 4, 5, 6] [0] [AV.hp (nat_lit 0) (nat_lit 0), AV.sl Tk.imm [Kd.int IntKind.u8] t1, AV.int IntKind.i64 t6, AV.int IntKind.i64 t16, AV.int IntKind.i64 t17] [Blk.var [AV.int IntKind.i64 b0_0, AV.str b0_1, AV.bool b0_2]] = bif go30_3 t1 t6 t16 t17 b0_0 b0_1 b0_2 then some (Ex.norm, [AV.hp (nat_lit 0) (nat_lit 0), AV.sl Tk.imm [Kd.int IntKind.u8] t1, AV.int IntKind.i64 t6, AV.int IntKind.i64 t16, AV.int IntKind.i64 (nx30_3_3 t1 t6 t16 t17 b0_0 b0_1 b0_2)], [Blk.var [AV.int IntKind.i64 b0_0, AV.str b0_1, AV.bool b0_2]]) else bif xc30_3_0 t1 t6 t16 t17 b0_0 b0_1 b0_2 then some (Ex.ret, [AV.hp (nat_lit 0) (nat_lit 0), AV.sl Tk.imm [Kd.int IntKind.u8] t1, AV.nil, AV.bool false, AV.int IntKind.i64 t6], [Blk.var [AV.int IntKind.i64 b0_0, AV.str b0_1, AV.bool b0_2]]) else bif xc30_3_1 t1 t6 t16 t17 b0_0 b0_1 b0_2 then some (Ex.exit (nat_lit 0), [AV.hp (nat_lit 0) (nat_lit 0), AV.sl Tk.imm [Kd.int IntKind.u8] t1, AV.junk, AV.junk, AV.int IntKind.i64 t6], [Blk.var [AV.int IntKind.i64 b0_0, AV.str b0_1, AV.bool b0_2]]) else none := by
  have h : roundV (cfg Try.prog tab 100000 (gk k27 30) rest 30 1 Try.f30.ntmps) (loopAt Try.f30 3) [0, 1, 6, 16, 17] [0] [0, 1, 4, 5, 6] [0] [AV.hp (nat_lit 0) (nat_lit 0), AV.sl Tk.imm [Kd.int IntKind.u8] t1, AV.int IntKind.i64 t6, AV.int IntKind.i64 t16, AV.int IntKind.i64 t17] [Blk.var [AV.int IntKind.i64 b0_0, AV.str b0_1, AV.bool b0_2]] = bif decide (t17 < t16) then bif decide ((0 : Int) ≤ t17) && decide (t17 < (↑t1.length : Int)) then bif decide ((0 : Int) ≤ IntKind.i64.wrap (b0_0 + t17)) && decide (IntKind.i64.wrap (b0_0 + t17) < (↑(ByteArray.mk #[(80 : UInt8), (82 : UInt8), (73 : UInt8), (32 : UInt8), (42 : UInt8), (32 : UInt8), (72 : UInt8), (84 : UInt8), (84 : UInt8), (80 : UInt8), (47 : UInt8), (50 : UInt8), (46 : UInt8), (48 : UInt8), (13 : UInt8), (10 : UInt8), (13 : UInt8), (10 : UInt8), (83 : UInt8), (77 : UInt8), (13 : UInt8), (10 : UInt8), (13 : UInt8), (10 : UInt8)]).data.toList.length : Int)) then bif intOf ((t1.getD t17.toNat []).getD (0 : Nat) AV.junk) != (↑((ByteArray.mk #[(80 : UInt8), (82 : UInt8), (73 : UInt8), (32 : UInt8), (42 : UInt8), (32 : UInt8), (72 : UInt8), (84 : UInt8), (84 : UInt8), (80 : UInt8), (47 : UInt8), (50 : UInt8), (46 : UInt8), (48 : UInt8), (13 : UInt8), (10 : UInt8), (13 : UInt8), (10 : UInt8), (83 : UInt8), (77 : UInt8), (13 : UInt8), (10 : UInt8), (13 : UInt8), (10 : UInt8)]).data.toList.getD (IntKind.i64.wrap (b0_0 + t17)).toNat (0 : UInt8)).toNat : Int) then some (Ex.ret, [AV.hp (nat_lit 0) (nat_lit 0), AV.sl Tk.imm [Kd.int IntKind.u8] t1, AV.nil, AV.bool false, AV.int IntKind.i64 t6], [Blk.var [AV.int IntKind.i64 b0_0, AV.str b0_1, AV.bool b0_2]]) else some (Ex.norm, [AV.hp (nat_lit 0) (nat_lit 0), AV.sl Tk.imm [Kd.int IntKind.u8] t1, AV.int IntKind.i64 t6, AV.int IntKind.i64 t16, AV.int IntKind.i64 (IntKind.i64.wrap (t17 + (1 : Int)))], [Blk.var [AV.int IntKind.i64 b0_0, AV.str b0_1, AV.bool b0_2]]) else none else none else some (Ex.exit (nat_lit 0), [AV.hp (nat_lit 0) (nat_lit 0), AV.sl Tk.imm [Kd.int IntKind.u8] t1, AV.junk, AV.junk, AV.int IntKind.i64 t6], [Blk.var [AV.int IntKind.i64 b0_0, AV.str b0_1, AV.bool b0_2]]) := by kernel_rfl
  rw [h]
  clear h
  unfold go30_3 nx30_3_3 xc30_3_0 xc30_3_1
  generalize (decide ((0 : Int) ≤ IntKind.i64.wrap (b0_0 + t17)) && decide (IntKind.i64.wrap (b0_0 + t17) < (↑(ByteArray.mk #[(80 : UInt8), (82 : UInt8), (73 : UInt8), (32 : UInt8), (42 : UInt8), (32 : UInt8), (72 : UInt8), (84 : UInt8), (84 : UInt8), (80 : UInt8), (47 : UInt8), (50 : UInt8), (46 : UInt8), (48 : UInt8), (13 : UInt8), (10 : UInt8), (13 : UInt8), (10 : UInt8), (83 : UInt8), (77 : UInt8), (13 : UInt8), (10 : UInt8), (13 : UInt8), (10 : UInt8)]).data.toList.length : Int))) = c0
  generalize (intOf ((t1.getD t17.toNat []).getD (0 : Nat) AV.junk) != (↑((ByteArray.mk #[(80 : UInt8), (82 : UInt8), (73 : UInt8), (32 : UInt8), (42 : UInt8), (32 : UInt8), (72 : UInt8), (84 : UInt8), (84 : UInt8), (80 : UInt8), (47 : UInt8), (50 : UInt8), (46 : UInt8), (48 : UInt8), (13 : UInt8), (10 : UInt8), (13 : UInt8), (10 : UInt8), (83 : UInt8), (77 : UInt8), (13 : UInt8), (10 : UInt8), (13 : UInt8), (10 : UInt8)]).data.toList.getD (IntKind.i64.wrap (b0_0 + t17)).toNat (0 : UInt8)).toNat : Int)) = c1
  generalize (decide ((0 : Int) ≤ t17) && decide (t17 < (↑t1.length : Int))) = c2
  generalize (decide (t17 < t16)) = c3
  cases c3
  · skip
    rfl
  · skip
    cases c2
    · skip
      rfl
    · skip
      cases c0
      · skip
        rfl
      · skip
        cases c1
        · skip
          rfl
        · skip
          rfl
abbrev pl30_3 : Type := (List (List AV)) × Int × Int × Int × (List UInt8) × Bool
abbrev sl30_3 : Type := Int
noncomputable def vt30_3 (a : pl30_3 × sl30_3) : List AV := [AV.hp (nat_lit 0) (nat_lit 0), AV.sl Tk.imm [Kd.int IntKind.u8] a.1.1, AV.int IntKind.i64 a.1.2.1, AV.int IntKind.i64 a.1.2.2.1, AV.int IntKind.i64 a.2]
noncomputable def vc30_3 (a : pl30_3 × sl30_3) : List Blk := [Blk.var [AV.int IntKind.i64 a.1.2.2.2.1, AV.str a.1.2.2.2.2.1, AV.bool a.1.2.2.2.2.2]]
noncomputable def de30_3 (vt : List AV) (vc : List Blk) : Option (pl30_3 × sl30_3) :=
  match vt with
  | [qa0, qa1, qa2, qa3, qa4] => (match vc with
  | [qb0] => (match qa0 with
  | AV.hp (0) (0) => (match qa1 with
  | AV.sl Tk.imm [Kd.int IntKind.u8] t1 => (match qa2 with
  | AV.int IntKind.i64 t6 => (match qa3 with
  | AV.int IntKind.i64 t16 => (match qa4 with
  | AV.int IntKind.i64 t17 => (match qb0 with
  | Blk.var [AV.int IntKind.i64 b0_0, AV.str b0_1, AV.bool b0_2] => (some ((t1, t6, t16, b0_0, b0_1, b0_2), t17))
  | _ => none)
  | _ => none)
  | _ => none)
  | _ => none)
  | _ => none)
  | _ => none)
  | _ => none)
  | _ => none
theorem de30_3_ok (vt : List AV) (vc : List Blk) (a : pl30_3 × sl30_3) (h : de30_3 vt vc = some a) : vt = vt30_3 a ∧ vc = vc30_3 a := by
  unfold de30_3 at h
  split at h
  rotate_left
  · cases h
  split at h
  rotate_left
  · cases h
  split at h
  rotate_left
  · cases h
  split at h
  rotate_left
  · cases h
  split at h
  rotate_left
  · cases h
  split at h
  rotate_left
  · cases h
  split at h
  rotate_left
  · cases h
  split at h
  rotate_left
  · cases h
  injection h with h
  subst h
  exact ⟨rfl, rfl⟩
noncomputable def g30_3 (p : pl30_3) (s : sl30_3) : Bool := go30_3 p.1 p.2.1 p.2.2.1 s p.2.2.2.1 p.2.2.2.2.1 p.2.2.2.2.2
noncomputable def n30_3 (p : pl30_3) (s : sl30_3) : sl30_3 := nx30_3_3 p.1 p.2.1 p.2.2.1 s p.2.2.2.1 p.2.2.2.2.1 p.2.2.2.2.2
noncomputable def y30_3 (p : pl30_3) (s : sl30_3) : List (Bool × Out) := [(xc30_3_0 p.1 p.2.1 p.2.2.1 s p.2.2.2.1 p.2.2.2.2.1 p.2.2.2.2.2, (Ex.ret, [AV.hp (nat_lit 0) (nat_lit 0), AV.sl Tk.imm [Kd.int IntKind.u8] p.1, AV.nil, AV.bool false, AV.int IntKind.i64 p.2.1], [Blk.var [AV.int IntKind.i64 p.2.2.2.1, AV.str p.2.2.2.2.1, AV.bool p.2.2.2.2.2]]))]
noncomputable def z30_3 (p : pl30_3) (s : sl30_3) : Bool := xc30_3_1 p.1 p.2.1 p.2.2.1 s p.2.2.2.1 p.2.2.2.2.1 p.2.2.2.2.2
noncomputable def d30_3 (p : pl30_3) (s : sl30_3) : Out := (Ex.exit (nat_lit 0), [AV.hp (nat_lit 0) (nat_lit 0), AV.sl Tk.imm [Kd.int IntKind.u8] p.1, AV.junk, AV.junk, AV.int IntKind.i64 p.2.1], [Blk.var [AV.int IntKind.i64 p.2.2.2.1, AV.str p.2.2.2.2.1, AV.bool p.2.2.2.2.2]])
noncomputable def ls30_3 : St → Option (Bool × List (Bool × Ex × St) × Ex × St) := lspOf [0, 1, 6, 16, 17] [0] [0, 1, 4, 5, 6] [0] Try.f30.ntmps (1 + tab.nid 30) de30_3 (spI g30_3 n30_3 y30_3 z30_3 d30_3)
theorem lo30_3 (rest : Lsp) : LoopOK1 (cfg Try.prog tab 100000 (gk k27 30) (selL 3 ls30_3 rest) 30 1 Try.f30.ntmps) (loopAt Try.f30 3) := LoopOK1.iter (i := 3) (by kernel_rfl) [0, 1, 6, 16, 17] [0] [0, 1, 4, 5, 6] [0] vt30_3 vc30_3 de30_3 g30_3 n30_3 y30_3 z30_3 d30_3 (fun _ => rfl) de30_3_ok (fun p s => rd30_3 (selL 3 ls30_3 rest) (p.1) (p.2.1) (p.2.2.1) s (p.2.2.2.1) (p.2.2.2.2.1) (p.2.2.2.2.2)) (fun _ _ => rfl)
noncomputable def lsp30 : Lsp := (selL 3 ls30_3 noLsp)
theorem loops30 : ∀ c, Try.f30.body = some c → LoopsOK (cfg Try.prog tab 100000 (gk k27 30) lsp30 30 1 Try.f30.ntmps) c := loops_of [3] (by kernel_rfl) (by kernel_rfl) (fun i hi => by
  simp only [List.mem_cons, List.not_mem_nil, or_false] at hi
  subst hi
  · exact lo30_3 noLsp)
noncomputable def vev30_0 (g : Int) (s : List UInt8) (d : Bool) (bs : List (List AV)) : List (List AV) := bif xc30_3_0 bs (if if false = true then (↑bs.length : Int) < IntKind.i64.wrap ((24 : Int) - g) else IntKind.i64.wrap ((24 : Int) - g) < (↑bs.length : Int) then IntKind.i64.wrap ((24 : Int) - g) else (↑bs.length : Int)) (if if false = true then (↑bs.length : Int) < IntKind.i64.wrap ((24 : Int) - g) else IntKind.i64.wrap ((24 : Int) - g) < (↑bs.length : Int) then IntKind.i64.wrap ((24 : Int) - g) else (↑bs.length : Int)) (finL (g30_3 (bs, if if false = true then (↑bs.length : Int) < IntKind.i64.wrap ((24 : Int) - g) else IntKind.i64.wrap ((24 : Int) - g) < (↑bs.length : Int) then IntKind.i64.wrap ((24 : Int) - g) else (↑bs.length : Int), if if false = true then (↑bs.length : Int) < IntKind.i64.wrap ((24 : Int) - g) else IntKind.i64.wrap ((24 : Int) - g) < (↑bs.length : Int) then IntKind.i64.wrap ((24 : Int) - g) else (↑bs.length : Int), g, s, d)) (n30_3 (bs, if if false = true then (↑bs.length : Int) < IntKind.i64.wrap ((24 : Int) - g) else IntKind.i64.wrap ((24 : Int) - g) < (↑bs.length : Int) then IntKind.i64.wrap ((24 : Int) - g) else (↑bs.length : Int), if if false = true then (↑bs.length : Int) < IntKind.i64.wrap ((24 : Int) - g) else IntKind.i64.wrap ((24 : Int) - g) < (↑bs.length : Int) then IntKind.i64.wrap ((24 : Int) - g) else (↑bs.length : Int), g, s, d)) (0 : Int)) g s d then [] else List.drop (if if false = true then (↑bs.length : Int) < IntKind.i64.wrap ((24 : Int) - g) else IntKind.i64.wrap ((24 : Int) - g) < (↑bs.length : Int) then IntKind.i64.wrap ((24 : Int) - g) else (↑bs.length : Int)).toNat bs
noncomputable def vev30_1 (g : Int) (s : List UInt8) (d : Bool) (bs : List (List AV)) : Bool := bif xc30_3_0 bs (if if false = true then (↑bs.length : Int) < IntKind.i64.wrap ((24 : Int) - g) else IntKind.i64.wrap ((24 : Int) - g) < (↑bs.length : Int) then IntKind.i64.wrap ((24 : Int) - g) else (↑bs.length : Int)) (if if false = true then (↑bs.length : Int) < IntKind.i64.wrap ((24 : Int) - g) else IntKind.i64.wrap ((24 : Int) - g) < (↑bs.length : Int) then IntKind.i64.wrap ((24 : Int) - g) else (↑bs.length : Int)) (finL (g30_3 (bs, if if false = true then (↑bs.length : Int) < IntKind.i64.wrap ((24 : Int) - g) else IntKind.i64.wrap ((24 : Int) - g) < (↑bs.length : Int) then IntKind.i64.wrap ((24 : Int) - g) else (↑bs.length : Int), if if false = true then (↑bs.length : Int) < IntKind.i64.wrap ((24 : Int) - g) else IntKind.i64.wrap ((24 : Int) - g) < (↑bs.length : Int) then IntKind.i64.wrap ((24 : Int) - g) else (↑bs.length : Int), g, s, d)) (n30_3 (bs, if if false = true then (↑bs.length : Int) < IntKind.i64.wrap ((24 : Int) - g) else IntKind.i64.wrap ((24 : Int) - g) < (↑bs.length : Int) then IntKind.i64.wrap ((24 : Int) - g) else (↑bs.length : Int), if if false = true then (↑bs.length : Int) < IntKind.i64.wrap ((24 : Int) - g) else IntKind.i64.wrap ((24 : Int) - g) < (↑bs.length : Int) then IntKind.i64.wrap ((24 : Int) - g) else (↑bs.length : Int), g, s, d)) (0 : Int)) g s d then false else true
noncomputable def vev30_2 (g : Int) (s : List UInt8) (d : Bool) (bs : List (List AV)) : Int := bif xc30_3_0 bs (if if false = true then (↑bs.length : Int) < IntKind.i64.wrap ((24 : Int) - g) else IntKind.i64.wrap ((24 : Int) - g) < (↑bs.length : Int) then IntKind.i64.wrap ((24 : Int) - g) else (↑bs.length : Int)) (if if false = true then (↑bs.length : Int) < IntKind.i64.wrap ((24 : Int) - g) else IntKind.i64.wrap ((24 : Int) - g) < (↑bs.length : Int) then IntKind.i64.wrap ((24 : Int) - g) else (↑bs.length : Int)) (finL (g30_3 (bs, if if false = true then (↑bs.length : Int) < IntKind.i64.wrap ((24 : Int) - g) else IntKind.i64.wrap ((24 : Int) - g) < (↑bs.length : Int) then IntKind.i64.wrap ((24 : Int) - g) else (↑bs.length : Int), if if false = true then (↑bs.length : Int) < IntKind.i64.wrap ((24 : Int) - g) else IntKind.i64.wrap ((24 : Int) - g) < (↑bs.length : Int) then IntKind.i64.wrap ((24 : Int) - g) else (↑bs.length : Int), g, s, d)) (n30_3 (bs, if if false = true then (↑bs.length : Int) < IntKind.i64.wrap ((24 : Int) - g) else IntKind.i64.wrap ((24 : Int) - g) < (↑bs.length : Int) then IntKind.i64.wrap ((24 : Int) - g) else (↑bs.length : Int), if if false = true then (↑bs.length : Int) < IntKind.i64.wrap ((24 : Int) - g) else IntKind.i64.wrap ((24 : Int) - g) < (↑bs.length : Int) then IntKind.i64.wrap ((24 : Int) - g) else (↑bs.length : Int), g, s, d)) (0 : Int)) g s d then g else IntKind.i64.wrap (g + if if false = true then (↑bs.length : Int) < IntKind.i64.wrap ((24 : Int) - g) else IntKind.i64.wrap ((24 : Int) - g) < (↑bs.length : Int) then IntKind.i64.wrap ((24 : Int) - g) else (↑bs.length : Int))
noncomputable def vev30_3 (g : Int) (s : List UInt8) (d : Bool) (bs : List (List AV)) : Bool := bif (spI g30_3 n30_3 y30_3 z30_3 d30_3 ((bs, if if false = true then (↑bs.length : Int) < IntKind.i64.wrap ((24 : Int) - g) else IntKind.i64.wrap ((24 : Int) - g) < (↑bs.length : Int) then IntKind.i64.wrap ((24 : Int) - g) else (↑bs.length : Int), if if false = true then (↑bs.length : Int) < IntKind.i64.wrap ((24 : Int) - g) else IntKind.i64.wrap ((24 : Int) - g) < (↑bs.length : Int) then IntKind.i64.wrap ((24 : Int) - g) else (↑bs.length : Int), g, s, d), (0 : Int))).fst then bif xc30_3_0 bs (if if false = true then (↑bs.length : Int) < IntKind.i64.wrap ((24 : Int) - g) else IntKind.i64.wrap ((24 : Int) - g) < (↑bs.length : Int) then IntKind.i64.wrap ((24 : Int) - g) else (↑bs.length : Int)) (if if false = true then (↑bs.length : Int) < IntKind.i64.wrap ((24 : Int) - g) else IntKind.i64.wrap ((24 : Int) - g) < (↑bs.length : Int) then IntKind.i64.wrap ((24 : Int) - g) else (↑bs.length : Int)) (finL (g30_3 (bs, if if false = true then (↑bs.length : Int) < IntKind.i64.wrap ((24 : Int) - g) else IntKind.i64.wrap ((24 : Int) - g) < (↑bs.length : Int) then IntKind.i64.wrap ((24 : Int) - g) else (↑bs.length : Int), if if false = true then (↑bs.length : Int) < IntKind.i64.wrap ((24 : Int) - g) else IntKind.i64.wrap ((24 : Int) - g) < (↑bs.length : Int) then IntKind.i64.wrap ((24 : Int) - g) else (↑bs.length : Int), g, s, d)) (n30_3 (bs, if if false = true then (↑bs.length : Int) < IntKind.i64.wrap ((24 : Int) - g) else IntKind.i64.wrap ((24 : Int) - g) < (↑bs.length : Int) then IntKind.i64.wrap ((24 : Int) - g) else (↑bs.length : Int), if if false = true then (↑bs.length : Int) < IntKind.i64.wrap ((24 : Int) - g) else IntKind.i64.wrap ((24 : Int) - g) < (↑bs.length : Int) then IntKind.i64.wrap ((24 : Int) - g) else (↑bs.length : Int), g, s, d)) (0 : Int)) g s d then true else bif bnd (if if false = true then (↑bs.length : Int) < IntKind.i64.wrap ((24 : Int) - g) else IntKind.i64.wrap ((24 : Int) - g) < (↑bs.length : Int) then IntKind.i64.wrap ((24 : Int) - g) else (↑bs.length : Int)) (↑bs.length : Int) (↑bs.length : Int) then true else false else false
theorem ev30 (g : Int) (s : List UInt8) (d : Bool) (bs : List (List AV)) : evFin (cfg Try.prog tab 100000 (gk k27 30) lsp30 30 ([.var [.int .i64 g, .str s, .bool d]] : List Blk).length Try.f30.ntmps) ([.var [.int .i64 g, .str s, .bool d]] : List Blk).length Try.f30.resultTypes.toList Try.f30 [.hp 0 0, .sl .imm [.int .u8] bs] [.var [.int .i64 g, .str s, .bool d]] = bif vev30_3 g s d bs then some (true, AV.tup [AV.sl Tk.imm [Kd.int IntKind.u8] (vev30_0 g s d bs), AV.bool (vev30_1 g s d bs)], [Blk.var [AV.int IntKind.i64 (vev30_2 g s d bs), AV.str s, AV.bool d]]) else none := by
  have h : evFin (cfg Try.prog tab 100000 (gk k27 30) lsp30 30 ([.var [.int .i64 g, .str s, .bool d]] : List Blk).length Try.f30.ntmps) ([.var [.int .i64 g, .str s, .bool d]] : List Blk).length Try.f30.resultTypes.toList Try.f30 [.hp 0 0, .sl .imm [.int .u8] bs] [.var [.int .i64 g, .str s, .bool d]] = bif (spI g30_3 n30_3 y30_3 z30_3 d30_3 ((bs, if if false = true then (↑bs.length : Int) < IntKind.i64.wrap ((24 : Int) - g) else IntKind.i64.wrap ((24 : Int) - g) < (↑bs.length : Int) then IntKind.i64.wrap ((24 : Int) - g) else (↑bs.length : Int), if if false = true then (↑bs.length : Int) < IntKind.i64.wrap ((24 : Int) - g) else IntKind.i64.wrap ((24 : Int) - g) < (↑bs.length : Int) then IntKind.i64.wrap ((24 : Int) - g) else (↑bs.length : Int), g, s, d), (0 : Int))).fst then bif xc30_3_0 bs (if if false = true then (↑bs.length : Int) < IntKind.i64.wrap ((24 : Int) - g) else IntKind.i64.wrap ((24 : Int) - g) < (↑bs.length : Int) then IntKind.i64.wrap ((24 : Int) - g) else (↑bs.length : Int)) (if if false = true then (↑bs.length : Int) < IntKind.i64.wrap ((24 : Int) - g) else IntKind.i64.wrap ((24 : Int) - g) < (↑bs.length : Int) then IntKind.i64.wrap ((24 : Int) - g) else (↑bs.length : Int)) (finL (g30_3 (bs, if if false = true then (↑bs.length : Int) < IntKind.i64.wrap ((24 : Int) - g) else IntKind.i64.wrap ((24 : Int) - g) < (↑bs.length : Int) then IntKind.i64.wrap ((24 : Int) - g) else (↑bs.length : Int), if if false = true then (↑bs.length : Int) < IntKind.i64.wrap ((24 : Int) - g) else IntKind.i64.wrap ((24 : Int) - g) < (↑bs.length : Int) then IntKind.i64.wrap ((24 : Int) - g) else (↑bs.length : Int), g, s, d)) (n30_3 (bs, if if false = true then (↑bs.length : Int) < IntKind.i64.wrap ((24 : Int) - g) else IntKind.i64.wrap ((24 : Int) - g) < (↑bs.length : Int) then IntKind.i64.wrap ((24 : Int) - g) else (↑bs.length : Int), if if false = true then (↑bs.length : Int) < IntKind.i64.wrap ((24 : Int) - g) else IntKind.i64.wrap ((24 : Int) - g) < (↑bs.length : Int) then IntKind.i64.wrap ((24 : Int) - g) else (↑bs.length : Int), g, s, d)) (0 : Int)) g s d then some (true, AV.tup [AV.sl Tk.imm [Kd.int IntKind.u8] [], AV.bool false], [Blk.var [AV.int IntKind.i64 g, AV.str s, AV.bool d]]) else bif bnd (if if false = true then (↑bs.length : Int) < IntKind.i64.wrap ((24 : Int) - g) else IntKind.i64.wrap ((24 : Int) - g) < (↑bs.length : Int) then IntKind.i64.wrap ((24 : Int) - g) else (↑bs.length : Int)) (↑bs.length : Int) (↑bs.length : Int) then some (true, AV.tup [AV.sl Tk.imm [Kd.int IntKind.u8] (List.drop (if if false = true then (↑bs.length : Int) < IntKind.i64.wrap ((24 : Int) - g) else IntKind.i64.wrap ((24 : Int) - g) < (↑bs.length : Int) then IntKind.i64.wrap ((24 : Int) - g) else (↑bs.length : Int)).toNat bs), AV.bool true], [Blk.var [AV.int IntKind.i64 (IntKind.i64.wrap (g + if if false = true then (↑bs.length : Int) < IntKind.i64.wrap ((24 : Int) - g) else IntKind.i64.wrap ((24 : Int) - g) < (↑bs.length : Int) then IntKind.i64.wrap ((24 : Int) - g) else (↑bs.length : Int))), AV.str s, AV.bool d]]) else none else none := by kernel_rfl
  rw [h]
  clear h
  unfold vev30_0 vev30_1 vev30_2 vev30_3
  generalize (xc30_3_0 bs (if if false = true then (↑bs.length : Int) < IntKind.i64.wrap ((24 : Int) - g) else IntKind.i64.wrap ((24 : Int) - g) < (↑bs.length : Int) then IntKind.i64.wrap ((24 : Int) - g) else (↑bs.length : Int)) (if if false = true then (↑bs.length : Int) < IntKind.i64.wrap ((24 : Int) - g) else IntKind.i64.wrap ((24 : Int) - g) < (↑bs.length : Int) then IntKind.i64.wrap ((24 : Int) - g) else (↑bs.length : Int)) (finL (g30_3 (bs, if if false = true then (↑bs.length : Int) < IntKind.i64.wrap ((24 : Int) - g) else IntKind.i64.wrap ((24 : Int) - g) < (↑bs.length : Int) then IntKind.i64.wrap ((24 : Int) - g) else (↑bs.length : Int), if if false = true then (↑bs.length : Int) < IntKind.i64.wrap ((24 : Int) - g) else IntKind.i64.wrap ((24 : Int) - g) < (↑bs.length : Int) then IntKind.i64.wrap ((24 : Int) - g) else (↑bs.length : Int), g, s, d)) (n30_3 (bs, if if false = true then (↑bs.length : Int) < IntKind.i64.wrap ((24 : Int) - g) else IntKind.i64.wrap ((24 : Int) - g) < (↑bs.length : Int) then IntKind.i64.wrap ((24 : Int) - g) else (↑bs.length : Int), if if false = true then (↑bs.length : Int) < IntKind.i64.wrap ((24 : Int) - g) else IntKind.i64.wrap ((24 : Int) - g) < (↑bs.length : Int) then IntKind.i64.wrap ((24 : Int) - g) else (↑bs.length : Int), g, s, d)) (0 : Int)) g s d) = c0
  generalize ((spI g30_3 n30_3 y30_3 z30_3 d30_3 ((bs, if if false = true then (↑bs.length : Int) < IntKind.i64.wrap ((24 : Int) - g) else IntKind.i64.wrap ((24 : Int) - g) < (↑bs.length : Int) then IntKind.i64.wrap ((24 : Int) - g) else (↑bs.length : Int), if if false = true then (↑bs.length : Int) < IntKind.i64.wrap ((24 : Int) - g) else IntKind.i64.wrap ((24 : Int) - g) < (↑bs.length : Int) then IntKind.i64.wrap ((24 : Int) - g) else (↑bs.length : Int), g, s, d), (0 : Int))).fst) = c1
  generalize (bnd (if if false = true then (↑bs.length : Int) < IntKind.i64.wrap ((24 : Int) - g) else IntKind.i64.wrap ((24 : Int) - g) < (↑bs.length : Int) then IntKind.i64.wrap ((24 : Int) - g) else (↑bs.length : Int)) (↑bs.length : Int) (↑bs.length : Int)) = c2
  cases c1
  · skip
    rfl
  · skip
    cases c0
    · skip
      cases c2
      · skip
        rfl
      · skip
        rfl
    · skip
      rfl
-- spec vev30_3 g s d bs ;; (true, AV.tup [AV.sl Tk.imm [Kd.int IntKind.u8] (vev30_0 g s d bs), AV.bool (vev30_1 g s d bs)], [Blk.var [AV.int IntKind.i64 (vev30_2 g s d bs), AV.str s, AV.bool d]])
noncomputable def sp30 : List AV → List Blk → Option (Bool × AV × List Blk)
  | [.hp 0 0, .sl .imm [.int .u8] bs], [.var [.int .i64 g, .str s, .bool d]] => spW (vev30_3 g s d bs) (some ((true, AV.tup [AV.sl Tk.imm [Kd.int IntKind.u8] (vev30_0 g s d bs), AV.bool (vev30_1 g s d bs)], [Blk.var [AV.int IntKind.i64 (vev30_2 g s d bs), AV.str s, AV.bool d]])))
  | _, _ => none
noncomputable def k30 : Gam := fun f T C => match Nat.beq f 30 with
  | true => (sp30 T C).or (k27 f T C)
  | false => k27 f T C
theorem k30_ok : GamOK Try.prog k30 := by
  intro f T C r outs h
  unfold k30 at h
  cases hf : Nat.beq f 30 with
  | false => rw [hf] at h; exact k27_ok f T C r outs h
  | true =>
    have hf' := Nat.eq_of_beq_eq_true hf
    subst hf'
    rw [hf] at h
    dsimp only at h
    cases hs : sp30 T C with
    | none => rw [hs] at h; exact k27_ok _ T C r outs h
    | some x =>
      rw [hs] at h
      have hx : x = (true, r, outs) := by simpa using h
      subst hx
      unfold sp30 at hs
      split at hs
      · rename_i bs g s d
        obtain ⟨hb, rfl, rfl⟩ := spT_inv hs
        have he := ev30 g s d bs
        rw [hb, cond_true] at he
        obtain ⟨r0, o0, h0, he⟩ := evFin_inv he
        obtain ⟨h1, h2⟩ := fn_ok mixed plain (gk_ok k27_ok 30) Try.func30 loops30 h0
        exact ⟨h1, h2.fin he⟩
      · cases hs
noncomputable def go31_2 (t0 : List UInt8) (b2 : List (List AV)) : Bool := bif vev33_5 t0 then bif !vev33_4 t0 then false else bif decide (vev33_0 t0 > (16384 : Int)) then false else bif decide ((↑t0.length : Int) < IntKind.i64.wrap ((9 : Int) + vev33_0 t0)) then false else bif bnd (9 : Int) (IntKind.i64.wrap ((9 : Int) + vev33_0 t0)) (↑t0.length : Int) then bif bif decide ((b2.length + (1 : Nat)) * (40 : Nat) ≤ (140737488355328 : Nat)) then decide (b2.length + (1 : Nat) ≤ (9223372036854775807 : Nat)) else false then bnd (IntKind.i64.wrap ((9 : Int) + vev33_0 t0)) (↑t0.length : Int) (↑t0.length : Int) else false else false else false
noncomputable def nx31_2_0 (t0 : List UInt8) (b2 : List (List AV)) : List UInt8 := List.drop (IntKind.i64.wrap ((9 : Int) + vev33_0 t0)).toNat t0
noncomputable def nx31_2_1 (t0 : List UInt8) (b2 : List (List AV)) : List (List AV) := b2 ++ [[AV.int IntKind.i64 (vev33_0 t0), AV.int IntKind.u8 (vev33_1 t0), AV.int IntKind.u8 (vev33_2 t0), AV.int IntKind.i64 (vev33_3 t0), AV.str (List.drop (Int.toNat (9 : Int)) (List.take (IntKind.i64.wrap ((9 : Int) + vev33_0 t0)).toNat t0))]]
noncomputable def xc31_2_0 (t0 : List UInt8) (b2 : List (List AV)) : Bool := bif vev33_5 t0 then bif !vev33_4 t0 then true else bif decide (vev33_0 t0 > (16384 : Int)) then true else decide ((↑t0.length : Int) < IntKind.i64.wrap ((9 : Int) + vev33_0 t0)) else false
noncomputable def xv31_2_0_0 (t0 : List UInt8) (b2 : List (List AV)) : List UInt8 := bif !vev33_4 t0 then t0 else bif decide (vev33_0 t0 > (16384 : Int)) then (ByteArray.mk #[]).data.toList else t0
noncomputable def xv31_2_0_1 (t0 : List UInt8) (b2 : List (List AV)) : Int := bif !vev33_4 t0 then (0 : Int) else bif decide (vev33_0 t0 > (16384 : Int)) then (6 : Int) else (0 : Int)
theorem rd31_2 (rest : Lsp) (t0 : List UInt8) (b2 : List (List AV)) : roundV (cfg Try.prog tab 100000 (gk k30 30) rest 31 0 Try.f31.ntmps) (loopAt Try.f31 2) [0, 5] [0, 2] [2, 3, 4] [0, 2] [AV.str t0, AV.rf (nat_lit 2) [Kd.int IntKind.i64, Kd.int IntKind.u8, Kd.int IntKind.u8, Kd.int IntKind.i64, Kd.str]] [Blk.dead, Blk.row [Kd.int IntKind.i64, Kd.int IntKind.u8, Kd.int IntKind.u8, Kd.int IntKind.i64, Kd.str] b2] = bif go31_2 t0 b2 then some (Ex.norm, [AV.str (nx31_2_0 t0 b2), AV.rf (nat_lit 2) [Kd.int IntKind.i64, Kd.int IntKind.u8, Kd.int IntKind.u8, Kd.int IntKind.i64, Kd.str]], [Blk.dead, Blk.row [Kd.int IntKind.i64, Kd.int IntKind.u8, Kd.int IntKind.u8, Kd.int IntKind.i64, Kd.str] (nx31_2_1 t0 b2)]) else bif xc31_2_0 t0 b2 then some (Ex.ret, [AV.rf (nat_lit 2) [Kd.int IntKind.i64, Kd.int IntKind.u8, Kd.int IntKind.u8, Kd.int IntKind.i64, Kd.str], AV.str (xv31_2_0_0 t0 b2), AV.int IntKind.u32 (xv31_2_0_1 t0 b2)], [Blk.dead, Blk.row [Kd.int IntKind.i64, Kd.int IntKind.u8, Kd.int IntKind.u8, Kd.int IntKind.i64, Kd.str] b2]) else none := by
  have h : roundV (cfg Try.prog tab 100000 (gk k30 30) rest 31 0 Try.f31.ntmps) (loopAt Try.f31 2) [0, 5] [0, 2] [2, 3, 4] [0, 2] [AV.str t0, AV.rf (nat_lit 2) [Kd.int IntKind.i64, Kd.int IntKind.u8, Kd.int IntKind.u8, Kd.int IntKind.i64, Kd.str]] [Blk.dead, Blk.row [Kd.int IntKind.i64, Kd.int IntKind.u8, Kd.int IntKind.u8, Kd.int IntKind.i64, Kd.str] b2] = bif vev33_5 t0 then bif !vev33_4 t0 then some (Ex.ret, [AV.rf (nat_lit 2) [Kd.int IntKind.i64, Kd.int IntKind.u8, Kd.int IntKind.u8, Kd.int IntKind.i64, Kd.str], AV.str t0, AV.int IntKind.u32 (0 : Int)], [Blk.dead, Blk.row [Kd.int IntKind.i64, Kd.int IntKind.u8, Kd.int IntKind.u8, Kd.int IntKind.i64, Kd.str] b2]) else bif decide (vev33_0 t0 > (16384 : Int)) then some (Ex.ret, [AV.rf (nat_lit 2) [Kd.int IntKind.i64, Kd.int IntKind.u8, Kd.int IntKind.u8, Kd.int IntKind.i64, Kd.str], AV.str (ByteArray.mk #[]).data.toList, AV.int IntKind.u32 (6 : Int)], [Blk.dead, Blk.row [Kd.int IntKind.i64, Kd.int IntKind.u8, Kd.int IntKind.u8, Kd.int IntKind.i64, Kd.str] b2]) else bif decide ((↑t0.length : Int) < IntKind.i64.wrap ((9 : Int) + vev33_0 t0)) then some (Ex.ret, [AV.rf (nat_lit 2) [Kd.int IntKind.i64, Kd.int IntKind.u8, Kd.int IntKind.u8, Kd.int IntKind.i64, Kd.str], AV.str t0, AV.int IntKind.u32 (0 : Int)], [Blk.dead, Blk.row [Kd.int IntKind.i64, Kd.int IntKind.u8, Kd.int IntKind.u8, Kd.int IntKind.i64, Kd.str] b2]) else bif bnd (9 : Int) (IntKind.i64.wrap ((9 : Int) + vev33_0 t0)) (↑t0.length : Int) then bif bif decide ((b2.length + (1 : Nat)) * (40 : Nat) ≤ (140737488355328 : Nat)) then decide (b2.length + (1 : Nat) ≤ (9223372036854775807 : Nat)) else false then bif bnd (IntKind.i64.wrap ((9 : Int) + vev33_0 t0)) (↑t0.length : Int) (↑t0.length : Int) then some (Ex.norm, [AV.str (List.drop (IntKind.i64.wrap ((9 : Int) + vev33_0 t0)).toNat t0), AV.rf (nat_lit 2) [Kd.int IntKind.i64, Kd.int IntKind.u8, Kd.int IntKind.u8, Kd.int IntKind.i64, Kd.str]], [Blk.dead, Blk.row [Kd.int IntKind.i64, Kd.int IntKind.u8, Kd.int IntKind.u8, Kd.int IntKind.i64, Kd.str] (b2 ++ [[AV.int IntKind.i64 (vev33_0 t0), AV.int IntKind.u8 (vev33_1 t0), AV.int IntKind.u8 (vev33_2 t0), AV.int IntKind.i64 (vev33_3 t0), AV.str (List.drop (Int.toNat (9 : Int)) (List.take (IntKind.i64.wrap ((9 : Int) + vev33_0 t0)).toNat t0))]])]) else none else none else none else none := by kernel_rfl
  rw [h]
  clear h
  unfold go31_2 nx31_2_0 nx31_2_1 xc31_2_0 xv31_2_0_0 xv31_2_0_1
  generalize (decide ((b2.length + (1 : Nat)) * (40 : Nat) ≤ (140737488355328 : Nat))) = c0
  generalize (decide ((↑t0.length : Int) < IntKind.i64.wrap ((9 : Int) + vev33_0 t0))) = c1
  generalize (decide (b2.length + (1 : Nat) ≤ (9223372036854775807 : Nat))) = c2
  generalize (bnd (IntKind.i64.wrap ((9 : Int) + vev33_0 t0)) (↑t0.length : Int) (↑t0.length : Int)) = c3
  generalize (bnd (9 : Int) (IntKind.i64.wrap ((9 : Int) + vev33_0 t0)) (↑t0.length : Int)) = c4
  generalize (decide (vev33_0 t0 > (16384 : Int))) = c5
  generalize (!vev33_4 t0) = c6
  generalize (vev33_5 t0) = c7
  cases c7
  · skip
    rfl
  · skip
    cases c6
    · skip
      cases c5
      · skip
        cases c1
        · skip
          cases c4
          · skip
            rfl
          · skip
            cases c0
            · skip
              rfl
            · skip
              cases c2
              · skip
                rfl
              · skip
                cases c3
                · skip
                  rfl
                · skip
                  rfl
        · skip
          rfl
      · skip
        rfl
    · skip
      rfl
abbrev pl31_2 : Type := Unit
abbrev sl31_2 : Type := (List UInt8) × (List (List AV))
noncomputable def vt31_2 (a : pl31_2 × sl31_2) : List AV := [AV.str a.2.1, AV.rf (nat_lit 2) [Kd.int IntKind.i64, Kd.int IntKind.u8, Kd.int IntKind.u8, Kd.int IntKind.i64, Kd.str]]
noncomputable def vc31_2 (a : pl31_2 × sl31_2) : List Blk := [Blk.dead, Blk.row [Kd.int IntKind.i64, Kd.int IntKind.u8, Kd.int IntKind.u8, Kd.int IntKind.i64, Kd.str] a.2.2]
noncomputable def de31_2 (vt : List AV) (vc : List Blk) : Option (pl31_2 × sl31_2) :=
  match vt with
  | [qa0, qa1] => (match vc with
  | [qb0, qb1] => (match qa0 with
  | AV.str t0 => (match qa1 with
  | AV.rf (2) [Kd.int IntKind.i64, Kd.int IntKind.u8, Kd.int IntKind.u8, Kd.int IntKind.i64, Kd.str] => (match qb0 with
  | Blk.dead => (match qb1 with
  | Blk.row [Kd.int IntKind.i64, Kd.int IntKind.u8, Kd.int IntKind.u8, Kd.int IntKind.i64, Kd.str] b2 => (some ((), (t0, b2)))
  | _ => none)
  | _ => none)
  | _ => none)
  | _ => none)
  | _ => none)
  | _ => none
theorem de31_2_ok (vt : List AV) (vc : List Blk) (a : pl31_2 × sl31_2) (h : de31_2 vt vc = some a) : vt = vt31_2 a ∧ vc = vc31_2 a := by
  unfold de31_2 at h
  split at h
  rotate_left
  · cases h
  split at h
  rotate_left
  · cases h
  split at h
  rotate_left
  · cases h
  split at h
  rotate_left
  · cases h
  split at h
  rotate_left
  · cases h
  split at h
  rotate_left
  · cases h
  injection h with h
  subst h
  exact ⟨rfl, rfl⟩
noncomputable def g31_2 (p : pl31_2) (s : sl31_2) : Bool := go31_2 s.1 s.2
noncomputable def n31_2 (p : pl31_2) (s : sl31_2) : sl31_2 := (nx31_2_0 s.1 s.2, nx31_2_1 s.1 s.2)
noncomputable def y31_2 (p : pl31_2) (s : sl31_2) : List (Bool × Out) := []
noncomputable def z31_2 (p : pl31_2) (s : sl31_2) : Bool := xc31_2_0 s.1 s.2
noncomputable def d31_2 (p : pl31_2) (s : sl31_2) : Out := (Ex.ret, [AV.rf (nat_lit 2) [Kd.int IntKind.i64, Kd.int IntKind.u8, Kd.int IntKind.u8, Kd.int IntKind.i64, Kd.str], AV.str (xv31_2_0_0 s.1 s.2), AV.int IntKind.u32 (xv31_2_0_1 s.1 s.2)], [Blk.dead, Blk.row [Kd.int IntKind.i64, Kd.int IntKind.u8, Kd.int IntKind.u8, Kd.int IntKind.i64, Kd.str] s.2])
noncomputable def ls31_2 : St → Option (Bool × List (Bool × Ex × St) × Ex × St) := lspOf [0, 5] [0, 2] [2, 3, 4] [0, 2] Try.f31.ntmps (0 + tab.nid 31) de31_2 (spI g31_2 n31_2 y31_2 z31_2 d31_2)
theorem lo31_2 (rest : Lsp) : LoopOK1 (cfg Try.prog tab 100000 (gk k30 30) (selL 2 ls31_2 rest) 31 0 Try.f31.ntmps) (loopAt Try.f31 2) := LoopOK1.iter (i := 2) (by kernel_rfl) [0, 5] [0, 2] [2, 3, 4] [0, 2] vt31_2 vc31_2 de31_2 g31_2 n31_2 y31_2 z31_2 d31_2 (fun _ => rfl) de31_2_ok (fun p s => rd31_2 (selL 2 ls31_2 rest) (s.1) (s.2)) (fun _ _ => rfl)
noncomputable def lsp31 : Lsp := (selL 2 ls31_2 noLsp)
theorem loops31 : ∀ c, Try.f31.body = some c → LoopsOK (cfg Try.prog tab 100000 (gk k30 30) lsp31 31 0 Try.f31.ntmps) c := loops_of [2] (by kernel_rfl) (by kernel_rfl) (fun i hi => by
  simp only [List.mem_cons, List.not_mem_nil, or_false] at hi
  subst hi
  · exact lo31_2 noLsp)
noncomputable def vev31_0 (s : List UInt8) : List (List AV) := (finL (g31_2 ()) (n31_2 ()) (s, [])).snd
noncomputable def vev31_1 (s : List UInt8) : List UInt8 := xv31_2_0_0 (finL (g31_2 ()) (n31_2 ()) (s, [])).fst (finL (g31_2 ()) (n31_2 ()) (s, [])).snd
noncomputable def vev31_2 (s : List UInt8) : Int := xv31_2_0_1 (finL (g31_2 ()) (n31_2 ()) (s, [])).fst (finL (g31_2 ()) (n31_2 ()) (s, [])).snd
noncomputable def vev31_3 (s : List UInt8) : Bool := bif (spI g31_2 n31_2 y31_2 z31_2 d31_2 ((), s, [])).fst then true else false
theorem ev31 (s : List UInt8) : evFin (cfg Try.prog tab 100000 (gk k30 30) lsp31 31 ([] : List Blk).length Try.f31.ntmps) ([] : List Blk).length Try.f31.resultTypes.toList Try.f31 [.str s] [] = bif vev31_3 s then some (true, AV.tup [AV.sl Tk.imm [Kd.int IntKind.i64, Kd.int IntKind.u8, Kd.int IntKind.u8, Kd.int IntKind.i64, Kd.str] (vev31_0 s), AV.str (vev31_1 s), AV.int IntKind.u32 (vev31_2 s)], []) else none := by
  have h : evFin (cfg Try.prog tab 100000 (gk k30 30) lsp31 31 ([] : List Blk).length Try.f31.ntmps) ([] : List Blk).length Try.f31.resultTypes.toList Try.f31 [.str s] [] = bif (spI g31_2 n31_2 y31_2 z31_2 d31_2 ((), s, [])).fst then some (true, AV.tup [AV.sl Tk.imm [Kd.int IntKind.i64, Kd.int IntKind.u8, Kd.int IntKind.u8, Kd.int IntKind.i64, Kd.str] (finL (g31_2 ()) (n31_2 ()) (s, [])).snd, AV.str (xv31_2_0_0 (finL (g31_2 ()) (n31_2 ()) (s, [])).fst (finL (g31_2 ()) (n31_2 ()) (s, [])).snd), AV.int IntKind.u32 (xv31_2_0_1 (finL (g31_2 ()) (n31_2 ()) (s, [])).fst (finL (g31_2 ()) (n31_2 ()) (s, [])).snd)], []) else none := by kernel_rfl
  rw [h]
  clear h
  unfold vev31_0 vev31_1 vev31_2 vev31_3
  generalize ((spI g31_2 n31_2 y31_2 z31_2 d31_2 ((), s, [])).fst) = c0
  cases c0
  · skip
    rfl
  · skip
    rfl
-- spec vev31_3 s ;; (true, AV.tup [AV.sl Tk.imm [Kd.int IntKind.i64, Kd.int IntKind.u8, Kd.int IntKind.u8, Kd.int IntKind.i64, Kd.str] (vev31_0 s), AV.str (vev31_1 s), AV.int IntKind.u32 (vev31_2 s)], [])
noncomputable def sp31 : List AV → List Blk → Option (Bool × AV × List Blk)
  | [.str s], [] => spW (vev31_3 s) (some ((true, AV.tup [AV.sl Tk.imm [Kd.int IntKind.i64, Kd.int IntKind.u8, Kd.int IntKind.u8, Kd.int IntKind.i64, Kd.str] (vev31_0 s), AV.str (vev31_1 s), AV.int IntKind.u32 (vev31_2 s)], [])))
  | _, _ => none
noncomputable def k31 : Gam := fun f T C => match Nat.beq f 31 with
  | true => (sp31 T C).or (k30 f T C)
  | false => k30 f T C
theorem k31_ok : GamOK Try.prog k31 := by
  intro f T C r outs h
  unfold k31 at h
  cases hf : Nat.beq f 31 with
  | false => rw [hf] at h; exact k30_ok f T C r outs h
  | true =>
    have hf' := Nat.eq_of_beq_eq_true hf
    subst hf'
    rw [hf] at h
    dsimp only at h
    cases hs : sp31 T C with
    | none => rw [hs] at h; exact k30_ok _ T C r outs h
    | some x =>
      rw [hs] at h
      have hx : x = (true, r, outs) := by simpa using h
      subst hx
      unfold sp31 at hs
      split at hs
      · rename_i s
        obtain ⟨hb, rfl, rfl⟩ := spT_inv hs
        have he := ev31 s
        rw [hb, cond_true] at he
        obtain ⟨r0, o0, h0, he⟩ := evFin_inv he
        obtain ⟨h1, h2⟩ := fn_ok mixed plain (gk_ok k30_ok 30) Try.func31 loops31 h0
        exact ⟨h1, h2.fin he⟩
      · cases hs
noncomputable def vev19_0 (g : Int) (s : List UInt8) (d : Bool) (bs : List (List AV)) : Int := bif bif d then true else bif vev33_5 s then vev23_0 g s d != (0 : Int) else false then g else bif !vev30_1 g s d bs then (0 : Int) else bif vev31_2 (s ++ List.map byteOf (vev30_0 g s d bs)) != (0 : Int) then (0 : Int) else vev30_2 g s d bs
noncomputable def vev19_1 (g : Int) (s : List UInt8) (d : Bool) (bs : List (List AV)) : List UInt8 := bif bif d then true else bif vev33_5 s then vev23_0 g s d != (0 : Int) else false then s else bif !vev30_1 g s d bs then (ByteArray.mk #[]).data.toList else bif vev31_2 (s ++ List.map byteOf (vev30_0 g s d bs)) != (0 : Int) then (ByteArray.mk #[]).data.toList else vev31_1 (s ++ List.map byteOf (vev30_0 g s d bs))
noncomputable def vev19_2 (g : Int) (s : List UInt8) (d : Bool) (bs : List (List AV)) : Bool := bif bif d then true else bif vev33_5 s then vev23_0 g s d != (0 : Int) else false then d else bif !vev30_1 g s d bs then true else bif vev31_2 (s ++ List.map byteOf (vev30_0 g s d bs)) != (0 : Int) then true else d
noncomputable def vev19_3 (g : Int) (s : List UInt8) (d : Bool) (bs : List (List AV)) : List (List AV) := bif bif d then true else bif vev33_5 s then vev23_0 g s d != (0 : Int) else false then [] else bif !vev30_1 g s d bs then [] else vev31_0 (s ++ List.map byteOf (vev30_0 g s d bs))
noncomputable def vev19_4 (g : Int) (s : List UInt8) (d : Bool) (bs : List (List AV)) : Int := bif bif d then true else bif vev33_5 s then vev23_0 g s d != (0 : Int) else false then (0 : Int) else bif !vev30_1 g s d bs then (1 : Int) else bif vev31_2 (s ++ List.map byteOf (vev30_0 g s d bs)) != (0 : Int) then vev31_2 (s ++ List.map byteOf (vev30_0 g s d bs)) else (0 : Int)
noncomputable def vev19_5 (g : Int) (s : List UInt8) (d : Bool) (bs : List (List AV)) : Bool := bif bif d then true else vev33_5 s then bif bif d then true else bif vev33_5 s then vev23_0 g s d != (0 : Int) else false then true else bif vev30_3 g s d bs then bif !vev30_1 g s d bs then true else bif (vev30_0 g s d bs).all isB then bif decide (s.length + (List.map byteOf (vev30_0 g s d bs)).length ≤ (9223372036854775807 : Nat)) then bif vev31_3 (s ++ List.map byteOf (vev30_0 g s d bs)) then true else false else false else false else false else false
theorem ev19 (g : Int) (s : List UInt8) (d : Bool) (bs : List (List AV)) : evFin (cfg Try.prog tab 100000 (gk k31 30) noLsp 19 ([] : List Blk).length Try.f19.ntmps) ([] : List Blk).length Try.f19.resultTypes.toList Try.f19 [.agg [.int .i64 g, .str s, .bool d], .sl .imm [.int .u8] bs] [] = bif vev19_5 g s d bs then some (true, AV.tup [AV.agg [AV.int IntKind.i64 (vev19_0 g s d bs), AV.str (vev19_1 g s d bs), AV.bool (vev19_2 g s d bs)], AV.sl Tk.imm [Kd.int IntKind.i64, Kd.int IntKind.u8, Kd.int IntKind.u8, Kd.int IntKind.i64, Kd.str] (vev19_3 g s d bs), AV.int IntKind.u32 (vev19_4 g s d bs)], []) else none := by
  have h : evFin (cfg Try.prog tab 100000 (gk k31 30) noLsp 19 ([] : List Blk).length Try.f19.ntmps) ([] : List Blk).length Try.f19.resultTypes.toList Try.f19 [.agg [.int .i64 g, .str s, .bool d], .sl .imm [.int .u8] bs] [] = bif bif d then true else bif bif vev33_5 s then true else false then true else false then bif bif d then true else bif bif vev33_5 s then true else false then bif false then true else vev23_0 g s d != (0 : Int) else false then some (true, AV.tup [AV.agg [AV.int IntKind.i64 g, AV.str s, AV.bool d], AV.sl Tk.imm [Kd.int IntKind.i64, Kd.int IntKind.u8, Kd.int IntKind.u8, Kd.int IntKind.i64, Kd.str] [], AV.int IntKind.u32 (0 : Int)], []) else bif vev30_3 g s d bs then bif !vev30_1 g s d bs then some (true, AV.tup [AV.agg [AV.int IntKind.i64 (0 : Int), AV.str (ByteArray.mk #[]).data.toList, AV.bool true], AV.sl Tk.imm [Kd.int IntKind.i64, Kd.int IntKind.u8, Kd.int IntKind.u8, Kd.int IntKind.i64, Kd.str] [], AV.int IntKind.u32 (1 : Int)], []) else bif (vev30_0 g s d bs).all isB then bif decide (s.length + (List.map byteOf (vev30_0 g s d bs)).length ≤ (9223372036854775807 : Nat)) then bif vev31_3 (s ++ List.map byteOf (vev30_0 g s d bs)) then bif vev31_2 (s ++ List.map byteOf (vev30_0 g s d bs)) != (0 : Int) then some (true, AV.tup [AV.agg [AV.int IntKind.i64 (0 : Int), AV.str (ByteArray.mk #[]).data.toList, AV.bool true], AV.sl Tk.imm [Kd.int IntKind.i64, Kd.int IntKind.u8, Kd.int IntKind.u8, Kd.int IntKind.i64, Kd.str] (vev31_0 (s ++ List.map byteOf (vev30_0 g s d bs))), AV.int IntKind.u32 (vev31_2 (s ++ List.map byteOf (vev30_0 g s d bs)))], []) else some (true, AV.tup [AV.agg [AV.int IntKind.i64 (vev30_2 g s d bs), AV.str (vev31_1 (s ++ List.map byteOf (vev30_0 g s d bs))), AV.bool d], AV.sl Tk.imm [Kd.int IntKind.i64, Kd.int IntKind.u8, Kd.int IntKind.u8, Kd.int IntKind.i64, Kd.str] (vev31_0 (s ++ List.map byteOf (vev30_0 g s d bs))), AV.int IntKind.u32 (0 : Int)], []) else none else none else none else none else none := by kernel_rfl
  rw [h]
  clear h
  unfold vev19_0 vev19_1 vev19_2 vev19_3 vev19_4 vev19_5
  generalize (decide (s.length + (List.map byteOf (vev30_0 g s d bs)).length ≤ (9223372036854775807 : Nat))) = c0
  generalize (vev31_2 (s ++ List.map byteOf (vev30_0 g s d bs)) != (0 : Int)) = c1
  generalize (vev31_3 (s ++ List.map byteOf (vev30_0 g s d bs))) = c2
  generalize (vev23_0 g s d != (0 : Int)) = c3
  generalize ((vev30_0 g s d bs).all isB) = c4
  generalize (!vev30_1 g s d bs) = c5
  generalize (vev30_3 g s d bs) = c6
  generalize (vev33_5 s) = c7
  generalize (d) = c8
  cases c8
  · skip
    cases c7
    · skip
      rfl
    · skip
      cases c3
      · skip
        cases c6
        · skip
          rfl
        · skip
          cases c5
          · skip
            cases c4
            · skip
              rfl
            · skip
              cases c0
              · skip
                rfl
              · skip
                cases c2
                · skip
                  rfl
                · skip
                  cases c1
                  · skip
                    rfl
                  · skip
                    rfl
          · skip
            rfl
      · skip
        rfl
  · skip
    rfl
-- spec vev19_5 g s d bs ;; (true, AV.tup [AV.agg [AV.int IntKind.i64 (vev19_0 g s d bs), AV.str (vev19_1 g s d bs), AV.bool (vev19_2 g s d bs)], AV.sl Tk.imm [Kd.int IntKind.i64, Kd.int IntKind.u8, Kd.int IntKind.u8, Kd.int IntKind.i64, Kd.str] (vev19_3 g s d bs), AV.int IntKind.u32 (vev19_4 g s d bs)], [])
noncomputable def sp19 : List AV → List Blk → Option (Bool × AV × List Blk)
  | [.agg [.int .i64 g, .str s, .bool d], .sl .imm [.int .u8] bs], [] => spW (vev19_5 g s d bs) (some ((true, AV.tup [AV.agg [AV.int IntKind.i64 (vev19_0 g s d bs), AV.str (vev19_1 g s d bs), AV.bool (vev19_2 g s d bs)], AV.sl Tk.imm [Kd.int IntKind.i64, Kd.int IntKind.u8, Kd.int IntKind.u8, Kd.int IntKind.i64, Kd.str] (vev19_3 g s d bs), AV.int IntKind.u32 (vev19_4 g s d bs)], [])))
  | _, _ => none
noncomputable def k19 : Gam := fun f T C => match Nat.beq f 19 with
  | true => (sp19 T C).or (k31 f T C)
  | false => k31 f T C
theorem k19_ok : GamOK Try.prog k19 := by
  intro f T C r outs h
  unfold k19 at h
  cases hf : Nat.beq f 19 with
  | false => rw [hf] at h; exact k31_ok f T C r outs h
  | true =>
    have hf' := Nat.eq_of_beq_eq_true hf
    subst hf'
    rw [hf] at h
    dsimp only at h
    cases hs : sp19 T C with
    | none => rw [hs] at h; exact k31_ok _ T C r outs h
    | some x =>
      rw [hs] at h
      have hx : x = (true, r, outs) := by simpa using h
      subst hx
      unfold sp19 at hs
      split at hs
      · rename_i g s d bs
        obtain ⟨hb, rfl, rfl⟩ := spT_inv hs
        have he := ev19 g s d bs
        rw [hb, cond_true] at he
        obtain ⟨r0, o0, h0, he⟩ := evFin_inv he
        obtain ⟨h1, h2⟩ := fn_ok mixed plain (gk_ok k31_ok 30) Try.func19 (fun c _ => LoopsOK.none (fun _ _ => rfl) c) h0
        exact ⟨h1, h2.fin he⟩
      · cases hs
noncomputable def go20_4 (t7 : List UInt8) (b2_0 : Int) (b2_1 : List UInt8) (b2_2 : Bool) (b3_0 : Int) (b3_1 : List UInt8) (b3_2 : Bool) : Bool := bif decide (b2_0 < (24 : Int)) then bif t7 == (ByteArray.mk #[]).data.toList then false else bif decide ((0 : Int) ≤ (0 : Int)) && decide ((0 : Int) < (↑t7.length : Int)) then bif decide ((0 : Int) ≤ b2_0) && decide (b2_0 < (↑(ByteArray.mk #[(80 : UInt8), (82 : UInt8), (73 : UInt8), (32 : UInt8), (42 : UInt8), (32 : UInt8), (72 : UInt8), (84 : UInt8), (84 : UInt8), (80 : UInt8), (47 : UInt8), (50 : UInt8), (46 : UInt8), (48 : UInt8), (13 : UInt8), (10 : UInt8), (13 : UInt8), (10 : UInt8), (83 : UInt8), (77 : UInt8), (13 : UInt8), (10 : UInt8), (13 : UInt8), (10 : UInt8)]).data.toList.length : Int)) then bif (↑(t7.getD (Int.toNat (0 : Int)) (0 : UInt8)).toNat : Int) != (↑((ByteArray.mk #[(80 : UInt8), (82 : UInt8), (73 : UInt8), (32 : UInt8), (42 : UInt8), (32 : UInt8), (72 : UInt8), (84 : UInt8), (84 : UInt8), (80 : UInt8), (47 : UInt8), (50 : UInt8), (46 : UInt8), (48 : UInt8), (13 : UInt8), (10 : UInt8), (13 : UInt8), (10 : UInt8), (83 : UInt8), (77 : UInt8), (13 : UInt8), (10 : UInt8), (13 : UInt8), (10 : UInt8)]).data.toList.getD b2_0.toNat (0 : UInt8)).toNat : Int) then false else bnd (1 : Int) (↑t7.length : Int) (↑t7.length : Int) else false else false else false
noncomputable def nx20_4_0 (t7 : List UInt8) (b2_0 : Int) (b2_1 : List UInt8) (b2_2 : Bool) (b3_0 : Int) (b3_1 : List UInt8) (b3_2 : Bool) : List UInt8 := List.drop (Int.toNat (1 : Int)) t7
noncomputable def nx20_4_1 (t7 : List UInt8) (b2_0 : Int) (b2_1 : List UInt8) (b2_2 : Bool) (b3_0 : Int) (b3_1 : List UInt8) (b3_2 : Bool) : Int := IntKind.i64.wrap (b2_0 + (1 : Int))
noncomputable def xc20_4_0 (t7 : List UInt8) (b2_0 : Int) (b2_1 : List UInt8) (b2_2 : Bool) (b3_0 : Int) (b3_1 : List UInt8) (b3_2 : Bool) : Bool := bif decide (b2_0 < (24 : Int)) then bif t7 == (ByteArray.mk #[]).data.toList then true else bif decide ((0 : Int) ≤ (0 : Int)) && decide ((0 : Int) < (↑t7.length : Int)) then bif decide ((0 : Int) ≤ b2_0) && decide (b2_0 < (↑(ByteArray.mk #[(80 : UInt8), (82 : UInt8), (73 : UInt8), (32 : UInt8), (42 : UInt8), (32 : UInt8), (72 : UInt8), (84 : UInt8), (84 : UInt8), (80 : UInt8), (47 : UInt8), (50 : UInt8), (46 : UInt8), (48 : UInt8), (13 : UInt8), (10 : UInt8), (13 : UInt8), (10 : UInt8), (83 : UInt8), (77 : UInt8), (13 : UInt8), (10 : UInt8), (13 : UInt8), (10 : UInt8)]).data.toList.length : Int)) then (↑(t7.getD (Int.toNat (0 : Int)) (0 : UInt8)).toNat : Int) != (↑((ByteArray.mk #[(80 : UInt8), (82 : UInt8), (73 : UInt8), (32 : UInt8), (42 : UInt8), (32 : UInt8), (72 : UInt8), (84 : UInt8), (84 : UInt8), (80 : UInt8), (47 : UInt8), (50 : UInt8), (46 : UInt8), (48 : UInt8), (13 : UInt8), (10 : UInt8), (13 : UInt8), (10 : UInt8), (83 : UInt8), (77 : UInt8), (13 : UInt8), (10 : UInt8), (13 : UInt8), (10 : UInt8)]).data.toList.getD b2_0.toNat (0 : UInt8)).toNat : Int) else false else false else false
noncomputable def xv20_4_0_0 (t7 : List UInt8) (b2_0 : Int) (b2_1 : List UInt8) (b2_2 : Bool) (b3_0 : Int) (b3_1 : List UInt8) (b3_2 : Bool) : Int := bif t7 == (ByteArray.mk #[]).data.toList then (0 : Int) else (1 : Int)
noncomputable def xv20_4_0_1 (t7 : List UInt8) (b2_0 : Int) (b2_1 : List UInt8) (b2_2 : Bool) (b3_0 : Int) (b3_1 : List UInt8) (b3_2 : Bool) : Int := bif t7 == (ByteArray.mk #[]).data.toList then b2_0 else (0 : Int)
noncomputable def xv20_4_0_2 (t7 : List UInt8) (b2_0 : Int) (b2_1 : List UInt8) (b2_2 : Bool) (b3_0 : Int) (b3_1 : List UInt8) (b3_2 : Bool) : List UInt8 := bif t7 == (ByteArray.mk #[]).data.toList then b2_1 else (ByteArray.mk #[]).data.toList
noncomputable def xv20_4_0_3 (t7 : List UInt8) (b2_0 : Int) (b2_1 : List UInt8) (b2_2 : Bool) (b3_0 : Int) (b3_1 : List UInt8) (b3_2 : Bool) : Bool := bif t7 == (ByteArray.mk #[]).data.toList then b2_2 else true
noncomputable def xc20_4_1 (t7 : List UInt8) (b2_0 : Int) (b2_1 : List UInt8) (b2_2 : Bool) (b3_0 : Int) (b3_1 : List UInt8) (b3_2 : Bool) : Bool := bif decide (b2_0 < (24 : Int)) then false else true
theorem rd20_4 (rest : Lsp) (t7 : List UInt8) (b2_0 : Int) (b2_1 : List UInt8) (b2_2 : Bool) (b3_0 : Int) (b3_1 : List UInt8) (b3_2 : Bool) : roundV (cfg Try.prog tab 100000 (gk k19 30) rest 20 0 Try.f20.ntmps) (loopAt Try.f20 4) [2, 4, 7] [2, 3] [2, 4, 5, 6, 7] [0, 2, 3, 4] [AV.hp (nat_lit 2) (nat_lit 0), AV.hp (nat_lit 3) (nat_lit 0), AV.str t7] [Blk.var [AV.int IntKind.i64 b2_0, AV.str b2_1, AV.bool b2_2], Blk.var [AV.int IntKind.i64 b3_0, AV.str b3_1, AV.bool b3_2]] = bif go20_4 t7 b2_0 b2_1 b2_2 b3_0 b3_1 b3_2 then some (Ex.norm, [AV.hp (nat_lit 2) (nat_lit 0), AV.hp (nat_lit 3) (nat_lit 0), AV.str (nx20_4_0 t7 b2_0 b2_1 b2_2 b3_0 b3_1 b3_2)], [Blk.var [AV.int IntKind.i64 (nx20_4_1 t7 b2_0 b2_1 b2_2 b3_0 b3_1 b3_2), AV.str b2_1, AV.bool b2_2], Blk.var [AV.int IntKind.i64 b3_0, AV.str b3_1, AV.bool b3_2]]) else bif xc20_4_0 t7 b2_0 b2_1 b2_2 b3_0 b3_1 b3_2 then some (Ex.ret, [AV.hp (nat_lit 2) (nat_lit 0), AV.hp (nat_lit 3) (nat_lit 0), AV.nil, AV.int IntKind.i64 (xv20_4_0_0 t7 b2_0 b2_1 b2_2 b3_0 b3_1 b3_2), AV.str t7], [Blk.dead, Blk.var [AV.int IntKind.i64 b2_0, AV.str b2_1, AV.bool b2_2], Blk.var [AV.int IntKind.i64 (xv20_4_0_1 t7 b2_0 b2_1 b2_2 b3_0 b3_1 b3_2), AV.str (xv20_4_0_2 t7 b2_0 b2_1 b2_2 b3_0 b3_1 b3_2), AV.bool (xv20_4_0_3 t7 b2_0 b2_1 b2_2 b3_0 b3_1 b3_2)], Blk.dead]) else bif xc20_4_1 t7 b2_0 b2_1 b2_2 b3_0 b3_1 b3_2 then some (Ex.exit (nat_lit 0), [AV.hp (nat_lit 2) (nat_lit 0), AV.hp (nat_lit 3) (nat_lit 0), AV.junk, AV.junk, AV.str t7], [Blk.dead, Blk.var [AV.int IntKind.i64 b2_0, AV.str b2_1, AV.bool b2_2], Blk.var [AV.int IntKind.i64 b3_0, AV.str b3_1, AV.bool b3_2], Blk.dead]) else none := by
  have h : roundV (cfg Try.prog tab 100000 (gk k19 30) rest 20 0 Try.f20.ntmps) (loopAt Try.f20 4) [2, 4, 7] [2, 3] [2, 4, 5, 6, 7] [0, 2, 3, 4] [AV.hp (nat_lit 2) (nat_lit 0), AV.hp (nat_lit 3) (nat_lit 0), AV.str t7] [Blk.var [AV.int IntKind.i64 b2_0, AV.str b2_1, AV.bool b2_2], Blk.var [AV.int IntKind.i64 b3_0, AV.str b3_1, AV.bool b3_2]] = bif decide (b2_0 < (24 : Int)) then bif t7 == (ByteArray.mk #[]).data.toList then some (Ex.ret, [AV.hp (nat_lit 2) (nat_lit 0), AV.hp (nat_lit 3) (nat_lit 0), AV.nil, AV.int IntKind.i64 (0 : Int), AV.str t7], [Blk.dead, Blk.var [AV.int IntKind.i64 b2_0, AV.str b2_1, AV.bool b2_2], Blk.var [AV.int IntKind.i64 b2_0, AV.str b2_1, AV.bool b2_2], Blk.dead]) else bif decide ((0 : Int) ≤ (0 : Int)) && decide ((0 : Int) < (↑t7.length : Int)) then bif decide ((0 : Int) ≤ b2_0) && decide (b2_0 < (↑(ByteArray.mk #[(80 : UInt8), (82 : UInt8), (73 : UInt8), (32 : UInt8), (42 : UInt8), (32 : UInt8), (72 : UInt8), (84 : UInt8), (84 : UInt8), (80 : UInt8), (47 : UInt8), (50 : UInt8), (46 : UInt8), (48 : UInt8), (13 : UInt8), (10 : UInt8), (13 : UInt8), (10 : UInt8), (83 : UInt8), (77 : UInt8), (13 : UInt8), (10 : UInt8), (13 : UInt8), (10 : UInt8)]).data.toList.length : Int)) then bif (↑(t7.getD (Int.toNat (0 : Int)) (0 : UInt8)).toNat : Int) != (↑((ByteArray.mk #[(80 : UInt8), (82 : UInt8), (73 : UInt8), (32 : UInt8), (42 : UInt8), (32 : UInt8), (72 : UInt8), (84 : UInt8), (84 : UInt8), (80 : UInt8), (47 : UInt8), (50 : UInt8), (46 : UInt8), (48 : UInt8), (13 : UInt8), (10 : UInt8), (13 : UInt8), (10 : UInt8), (83 : UInt8), (77 : UInt8), (13 : UInt8), (10 : UInt8), (13 : UInt8), (10 : UInt8)]).data.toList.getD b2_0.toNat (0 : UInt8)).toNat : Int) then some (Ex.ret, [AV.hp (nat_lit 2) (nat_lit 0), AV.hp (nat_lit 3) (nat_lit 0), AV.nil, AV.int IntKind.i64 (1 : Int), AV.str t7], [Blk.dead, Blk.var [AV.int IntKind.i64 b2_0, AV.str b2_1, AV.bool b2_2], Blk.var [AV.int IntKind.i64 (0 : Int), AV.str (ByteArray.mk #[]).data.toList, AV.bool true], Blk.dead]) else bif bnd (1 : Int) (↑t7.length : Int) (↑t7.length : Int) then some (Ex.norm, [AV.hp (nat_lit 2) (nat_lit 0), AV.hp (nat_lit 3) (nat_lit 0), AV.str (List.drop (Int.toNat (1 : Int)) t7)], [Blk.var [AV.int IntKind.i64 (IntKind.i64.wrap (b2_0 + (1 : Int))), AV.str b2_1, AV.bool b2_2], Blk.var [AV.int IntKind.i64 b3_0, AV.str b3_1, AV.bool b3_2]]) else none else none else none else some (Ex.exit (nat_lit 0), [AV.hp (nat_lit 2) (nat_lit 0), AV.hp (nat_lit 3) (nat_lit 0), AV.junk, AV.junk, AV.str t7], [Blk.dead, Blk.var [AV.int IntKind.i64 b2_0, AV.str b2_1, AV.bool b2_2], Blk.var [AV.int IntKind.i64 b3_0, AV.str b3_1, AV.bool b3_2], Blk.dead]) := by kernel_rfl
  rw [h]
  clear h
  unfold go20_4 nx20_4_0 nx20_4_1 xc20_4_0 xv20_4_0_0 xv20_4_0_1 xv20_4_0_2 xv20_4_0_3 xc20_4_1
  generalize (decide ((0 : Int) ≤ b2_0) && decide (b2_0 < (↑(ByteArray.mk #[(80 : UInt8), (82 : UInt8), (73 : UInt8), (32 : UInt8), (42 : UInt8), (32 : UInt8), (72 : UInt8), (84 : UInt8), (84 : UInt8), (80 : UInt8), (47 : UInt8), (50 : UInt8), (46 : UInt8), (48 : UInt8), (13 : UInt8), (10 : UInt8), (13 : UInt8), (10 : UInt8), (83 : UInt8), (77 : UInt8), (13 : UInt8), (10 : UInt8), (13 : UInt8), (10 : UInt8)]).data.toList.length : Int))) = c0
  generalize ((↑(t7.getD (Int.toNat (0 : Int)) (0 : UInt8)).toNat : Int) != (↑((ByteArray.mk #[(80 : UInt8), (82 : UInt8), (73 : UInt8), (32 : UInt8), (42 : UInt8), (32 : UInt8), (72 : UInt8), (84 : UInt8), (84 : UInt8), (80 : UInt8), (47 : UInt8), (50 : UInt8), (46 : UInt8), (48 : UInt8), (13 : UInt8), (10 : UInt8), (13 : UInt8), (10 : UInt8), (83 : UInt8), (77 : UInt8), (13 : UInt8), (10 : UInt8), (13 : UInt8), (10 : UInt8)]).data.toList.getD b2_0.toNat (0 : UInt8)).toNat : Int)) = c1
  generalize (decide ((0 : Int) ≤ (0 : Int)) && decide ((0 : Int) < (↑t7.length : Int))) = c2
  generalize (bnd (1 : Int) (↑t7.length : Int) (↑t7.length : Int)) = c3
  generalize (t7 == (ByteArray.mk #[]).data.toList) = c4
  generalize (decide (b2_0 < (24 : Int))) = c5
  cases c5
  · skip
    rfl
  · skip
    cases c4
    · skip
      cases c2
      · skip
        rfl
      · skip
        cases c0
        · skip
          rfl
        · skip
          cases c1
          · skip
            cases c3
            · skip
              rfl
            · skip
              rfl
          · skip
            rfl
    · skip
      rfl
abbrev pl20_4 : Type := (List UInt8) × Bool × Int × (List UInt8) × Bool
abbrev sl20_4 : Type := (List UInt8) × Int
noncomputable def vt20_4 (a : pl20_4 × sl20_4) : List AV := [AV.hp (nat_lit 2) (nat_lit 0), AV.hp (nat_lit 3) (nat_lit 0), AV.str a.2.1]
noncomputable def vc20_4 (a : pl20_4 × sl20_4) : List Blk := [Blk.var [AV.int IntKind.i64 a.2.2, AV.str a.1.1, AV.bool a.1.2.1], Blk.var [AV.int IntKind.i64 a.1.2.2.1, AV.str a.1.2.2.2.1, AV.bool a.1.2.2.2.2]]
noncomputable def de20_4 (vt : List AV) (vc : List Blk) : Option (pl20_4 × sl20_4) :=
  match vt with
  | [qa0, qa1, qa2] => (match vc with
  | [qb0, qb1] => (match qa0 with
  | AV.hp (2) (0) => (match qa1 with
  | AV.hp (3) (0) => (match qa2 with
  | AV.str t7 => (match qb0 with
  | Blk.var [AV.int IntKind.i64 b2_0, AV.str b2_1, AV.bool b2_2] => (match qb1 with
  | Blk.var [AV.int IntKind.i64 b3_0, AV.str b3_1, AV.bool b3_2] => (some ((b2_1, b2_2, b3_0, b3_1, b3_2), (t7, b2_0)))
  | _ => none)
  | _ => none)
  | _ => none)
  | _ => none)
  | _ => none)
  | _ => none)
  | _ => none
theorem de20_4_ok (vt : List AV) (vc : List Blk) (a : pl20_4 × sl20_4) (h : de20_4 vt vc = some a) : vt = vt20_4 a ∧ vc = vc20_4 a := by
  unfold de20_4 at h
  split at h
  rotate_left
  · cases h
  split at h
  rotate_left
  · cases h
  split at h
  rotate_left
  · cases h
  split at h
  rotate_left
  · cases h
  split at h
  rotate_left
  · cases h
  split at h
  rotate_left
  · cases h
  split at h
  rotate_left
  · cases h
  injection h with h
  subst h
  exact ⟨rfl, rfl⟩
noncomputable def g20_4 (p : pl20_4) (s : sl20_4) : Bool := go20_4 s.1 s.2 p.1 p.2.1 p.2.2.1 p.2.2.2.1 p.2.2.2.2
noncomputable def n20_4 (p : pl20_4) (s : sl20_4) : sl20_4 := (nx20_4_0 s.1 s.2 p.1 p.2.1 p.2.2.1 p.2.2.2.1 p.2.2.2.2, nx20_4_1 s.1 s.2 p.1 p.2.1 p.2.2.1 p.2.2.2.1 p.2.2.2.2)
noncomputable def y20_4 (p : pl20_4) (s : sl20_4) : List (Bool × Out) := [(xc20_4_0 s.1 s.2 p.1 p.2.1 p.2.2.1 p.2.2.2.1 p.2.2.2.2, (Ex.ret, [AV.hp (nat_lit 2) (nat_lit 0), AV.hp (nat_lit 3) (nat_lit 0), AV.nil, AV.int IntKind.i64 (xv20_4_0_0 s.1 s.2 p.1 p.2.1 p.2.2.1 p.2.2.2.1 p.2.2.2.2), AV.str s.1], [Blk.dead, Blk.var [AV.int IntKind.i64 s.2, AV.str p.1, AV.bool p.2.1], Blk.var [AV.int IntKind.i64 (xv20_4_0_1 s.1 s.2 p.1 p.2.1 p.2.2.1 p.2.2.2.1 p.2.2.2.2), AV.str (xv20_4_0_2 s.1 s.2 p.1 p.2.1 p.2.2.1 p.2.2.2.1 p.2.2.2.2), AV.bool (xv20_4_0_3 s.1 s.2 p.1 p.2.1 p.2.2.1 p.2.2.2.1 p.2.2.2.2)], Blk.dead]))]
noncomputable def z20_4 (p : pl20_4) (s : sl20_4) : Bool := xc20_4_1 s.1 s.2 p.1 p.2.1 p.2.2.1 p.2.2.2.1 p.2.2.2.2
noncomputable def d20_4 (p : pl20_4) (s : sl20_4) : Out := (Ex.exit (nat_lit 0), [AV.hp (nat_lit 2) (nat_lit 0), AV.hp (nat_lit 3) (nat_lit 0), AV.junk, AV.junk, AV.str s.1], [Blk.dead, Blk.var [AV.int IntKind.i64 s.2, AV.str p.1, AV.bool p.2.1], Blk.var [AV.int IntKind.i64 p.2.2.1, AV.str p.2.2.2.1, AV.bool p.2.2.2.2], Blk.dead])
noncomputable def ls20_4 : St → Option (Bool × List (Bool × Ex × St) × Ex × St) := lspOf [2, 4, 7] [2, 3] [2, 4, 5, 6, 7] [0, 2, 3, 4] Try.f20.ntmps (0 + tab.nid 20) de20_4 (spI g20_4 n20_4 y20_4 z20_4 d20_4)
theorem lo20_4 (rest : Lsp) : LoopOK1 (cfg Try.prog tab 100000 (gk k19 30) (selL 4 ls20_4 rest) 20 0 Try.f20.ntmps) (loopAt Try.f20 4) := LoopOK1.iter (i := 4) (by kernel_rfl) [2, 4, 7] [2, 3] [2, 4, 5, 6, 7] [0, 2, 3, 4] vt20_4 vc20_4 de20_4 g20_4 n20_4 y20_4 z20_4 d20_4 (fun _ => rfl) de20_4_ok (fun p s => rd20_4 (selL 4 ls20_4 rest) (s.1) (s.2) (p.1) (p.2.1) (p.2.2.1) (p.2.2.2.1) (p.2.2.2.2)) (fun _ _ => rfl)
noncomputable def go20_13 (t7 : List UInt8) (b3_0 : Int) (b3_1 : List UInt8) (b3_2 : Bool) (b4 : List (List AV)) : Bool := bif vev32_1 t7 then bif decide (vev32_0 t7 > (0 : Int)) then bif decide (t7.length ≤ (4611686018427387904 : Nat)) then bif vev15_5 Tk.imm (List.map ofB t7) then bif bnd (9 : Int) (vev32_0 t7) (↑t7.length : Int) then bif bif decide ((b4.length + (1 : Nat)) * (40 : Nat) ≤ (140737488355328 : Nat)) then decide (b4.length + (1 : Nat) ≤ (9223372036854775807 : Nat)) else false then bnd (vev32_0 t7) (↑t7.length : Int) (↑t7.length : Int) else false else false else false else false else false else false
noncomputable def nx20_13_4 (t7 : List UInt8) (b3_0 : Int) (b3_1 : List UInt8) (b3_2 : Bool) (b4 : List (List AV)) : List (List AV) := b4 ++ [[AV.int IntKind.i64 (vev15_0 Tk.imm (List.map ofB t7)), AV.int IntKind.u8 (vev15_1 Tk.imm (List.map ofB t7)), AV.int IntKind.u8 (vev15_2 Tk.imm (List.map ofB t7)), AV.int IntKind.i64 (vev15_3 Tk.imm (List.map ofB t7)), AV.str (List.drop (Int.toNat (9 : Int)) (List.take (vev32_0 t7).toNat t7))]]
noncomputable def xc20_13_0 (t7 : List UInt8) (b3_0 : Int) (b3_1 : List UInt8) (b3_2 : Bool) (b4 : List (List AV)) : Bool := bif vev32_1 t7 then bif decide (vev32_0 t7 > (0 : Int)) then false else true else false
theorem rd20_13 (rest : Lsp) (t7 : List UInt8) (b3_0 : Int) (b3_1 : List UInt8) (b3_2 : Bool) (b4 : List (List AV)) : roundV (cfg Try.prog tab 100000 (gk k19 30) (selL 4 ls20_4 rest) 20 0 Try.f20.ntmps) (loopAt Try.f20 13) [4, 7, 8] [0, 3, 4] [4, 7, 8] [0, 3, 4] [AV.hp (nat_lit 3) (nat_lit 0), AV.str t7, AV.rf (nat_lit 4) [Kd.int IntKind.i64, Kd.int IntKind.u8, Kd.int IntKind.u8, Kd.int IntKind.i64, Kd.str]] [Blk.dead, Blk.var [AV.int IntKind.i64 b3_0, AV.str b3_1, AV.bool b3_2], Blk.row [Kd.int IntKind.i64, Kd.int IntKind.u8, Kd.int IntKind.u8, Kd.int IntKind.i64, Kd.str] b4] = bif go20_13 t7 b3_0 b3_1 b3_2 b4 then some (Ex.norm, [AV.hp (nat_lit 3) (nat_lit 0), AV.str (List.drop (vev32_0 t7).toNat t7), AV.rf (nat_lit 4) [Kd.int IntKind.i64, Kd.int IntKind.u8, Kd.int IntKind.u8, Kd.int IntKind.i64, Kd.str]], [Blk.dead, Blk.var [AV.int IntKind.i64 b3_0, AV.str b3_1, AV.bool b3_2], Blk.row [Kd.int IntKind.i64, Kd.int IntKind.u8, Kd.int IntKind.u8, Kd.int IntKind.i64, Kd.str] (nx20_13_4 t7 b3_0 b3_1 b3_2 b4)]) else bif xc20_13_0 t7 b3_0 b3_1 b3_2 b4 then some (Ex.exit (nat_lit 2), [AV.hp (nat_lit 3) (nat_lit 0), AV.str t7, AV.rf (nat_lit 4) [Kd.int IntKind.i64, Kd.int IntKind.u8, Kd.int IntKind.u8, Kd.int IntKind.i64, Kd.str]], [Blk.dead, Blk.var [AV.int IntKind.i64 b3_0, AV.str b3_1, AV.bool b3_2], Blk.row [Kd.int IntKind.i64, Kd.int IntKind.u8, Kd.int IntKind.u8, Kd.int IntKind.i64, Kd.str] b4]) else none := by
  have h : roundV (cfg Try.prog tab 100000 (gk k19 30) (selL 4 ls20_4 rest) 20 0 Try.f20.ntmps) (loopAt Try.f20 13) [4, 7, 8] [0, 3, 4] [4, 7, 8] [0, 3, 4] [AV.hp (nat_lit 3) (nat_lit 0), AV.str t7, AV.rf (nat_lit 4) [Kd.int IntKind.i64, Kd.int IntKind.u8, Kd.int IntKind.u8, Kd.int IntKind.i64, Kd.str]] [Blk.dead, Blk.var [AV.int IntKind.i64 b3_0, AV.str b3_1, AV.bool b3_2], Blk.row [Kd.int IntKind.i64, Kd.int IntKind.u8, Kd.int IntKind.u8, Kd.int IntKind.i64, Kd.str] b4] = bif vev32_1 t7 then bif decide (vev32_0 t7 > (0 : Int)) then bif vev32_1 t7 then bif decide (t7.length ≤ (4611686018427387904 : Nat)) then bif vev15_5 Tk.imm (List.map ofB t7) then bif bnd (9 : Int) (vev32_0 t7) (↑t7.length : Int) then bif bif decide ((b4.length + (1 : Nat)) * (40 : Nat) ≤ (140737488355328 : Nat)) then decide (b4.length + (1 : Nat) ≤ (9223372036854775807 : Nat)) else false then bif bnd (vev32_0 t7) (↑t7.length : Int) (↑t7.length : Int) then some (Ex.norm, [AV.hp (nat_lit 3) (nat_lit 0), AV.str (List.drop (vev32_0 t7).toNat t7), AV.rf (nat_lit 4) [Kd.int IntKind.i64, Kd.int IntKind.u8, Kd.int IntKind.u8, Kd.int IntKind.i64, Kd.str]], [Blk.dead, Blk.var [AV.int IntKind.i64 b3_0, AV.str b3_1, AV.bool b3_2], Blk.row [Kd.int IntKind.i64, Kd.int IntKind.u8, Kd.int IntKind.u8, Kd.int IntKind.i64, Kd.str] (b4 ++ [[AV.int IntKind.i64 (vev15_0 Tk.imm (List.map ofB t7)), AV.int IntKind.u8 (vev15_1 Tk.imm (List.map ofB t7)), AV.int IntKind.u8 (vev15_2 Tk.imm (List.map ofB t7)), AV.int IntKind.i64 (vev15_3 Tk.imm (List.map ofB t7)), AV.str (List.drop (Int.toNat (9 : Int)) (List.take (vev32_0 t7).toNat t7))]])]) else none else none else none else none else none else none else some (Ex.exit (nat_lit 2), [AV.hp (nat_lit 3) (nat_lit 0), AV.str t7, AV.rf (nat_lit 4) [Kd.int IntKind.i64, Kd.int IntKind.u8, Kd.int IntKind.u8, Kd.int IntKind.i64, Kd.str]], [Blk.dead, Blk.var [AV.int IntKind.i64 b3_0, AV.str b3_1, AV.bool b3_2], Blk.row [Kd.int IntKind.i64, Kd.int IntKind.u8, Kd.int IntKind.u8, Kd.int IntKind.i64, Kd.str] b4]) else none := by kernel_rfl
  rw [h]
  clear h
  unfold go20_13 nx20_13_4 xc20_13_0
  generalize (decide ((b4.length + (1 : Nat)) * (40 : Nat) ≤ (140737488355328 : Nat))) = c0
  generalize (decide (b4.length + (1 : Nat) ≤ (9223372036854775807 : Nat))) = c1
  generalize (decide (t7.length ≤ (4611686018427387904 : Nat))) = c2
  generalize (decide (vev32_0 t7 > (0 : Int))) = c3
  generalize (bnd (vev32_0 t7) (↑t7.length : Int) (↑t7.length : Int)) = c4
  generalize (bnd (9 : Int) (vev32_0 t7) (↑t7.length : Int)) = c5
  generalize (vev15_5 Tk.imm (List.map ofB t7)) = c6
  generalize (vev32_1 t7) = c7
  cases c7
  · skip
    rfl
  · skip
    cases c3
    · skip
      rfl
    · skip
      cases c2
      · skip
        rfl
      · skip
        cases c6
        · skip
          rfl
        · skip
          cases c5
          · skip
            rfl
          · skip
            cases c0
            · skip
              rfl
            · skip
              cases c1
              · skip
                rfl
              · skip
                cases c4
                · skip
                  rfl
                · skip
                  rfl
abbrev pl20_13 : Type := Int × (List UInt8) × Bool
abbrev sl20_13 : Type := (List UInt8) × (List (List AV))
noncomputable def vt20_13 (a : pl20_13 × sl20_13) : List AV := [AV.hp (nat_lit 3) (nat_lit 0), AV.str a.2.1, AV.rf (nat_lit 4) [Kd.int IntKind.i64, Kd.int IntKind.u8, Kd.int IntKind.u8, Kd.int IntKind.i64, Kd.str]]
noncomputable def vc20_13 (a : pl20_13 × sl20_13) : List Blk := [Blk.dead, Blk.var [AV.int IntKind.i64 a.1.1, AV.str a.1.2.1, AV.bool a.1.2.2], Blk.row [Kd.int IntKind.i64, Kd.int IntKind.u8, Kd.int IntKind.u8, Kd.int IntKind.i64, Kd.str] a.2.2]
noncomputable def de20_13 (vt : List AV) (vc : List Blk) : Option (pl20_13 × sl20_13) :=
  match vt with
  | [qa0, qa1, qa2] => (match vc with
  | [qb0, qb1, qb2] => (match qa0 with
  | AV.hp (3) (0) => (match qa1 with
  | AV.str t7 => (match qa2 with
  | AV.rf (4) [Kd.int IntKind.i64, Kd.int IntKind.u8, Kd.int IntKind.u8, Kd.int IntKind.i64, Kd.str] => (match qb0 with
  | Blk.dead => (match qb1 with
  | Blk.var [AV.int IntKind.i64 b3_0, AV.str b3_1, AV.bool b3_2] => (match qb2 with
  | Blk.row [Kd.int IntKind.i64, Kd.int IntKind.u8, Kd.int IntKind.u8, Kd.int IntKind.i64, Kd.str] b4 => (some ((b3_0, b3_1, b3_2), (t7, b4)))
  | _ => none)
  | _ => none)
  | _ => none)
  | _ => none)
  | _ => none)
  | _ => none)
  | _ => none)
  | _ => none
theorem de20_13_ok (vt : List AV) (vc : List Blk) (a : pl20_13 × sl20_13) (h : de20_13 vt vc = some a) : vt = vt20_13 a ∧ vc = vc20_13 a := by
  unfold de20_13 at h
  split at h
  rotate_left
  · cases h
  split at h
  rotate_left
  · cases h
  split at h
  rotate_left
  · cases h
  split at h
  rotate_left
  · cases h
  split at h
  rotate_left
  · cases h
  split at h
  rotate_left
  · cases h
  split at h
  rotate_left
  · cases h
  split at h
  rotate_left
  · cases h
  injection h with h
  subst h
  exact ⟨rfl, rfl⟩
noncomputable def g20_13 (p : pl20_13) (s : sl20_13) : Bool := go20_13 s.1 p.1 p.2.1 p.2.2 s.2
noncomputable def n20_13 (p : pl20_13) (s : sl20_13) : sl20_13 := (List.drop (vev32_0 s.1).toNat s.1, nx20_13_4 s.1 p.1 p.2.1 p.2.2 s.2)
noncomputable def y20_13 (p : pl20_13) (s : sl20_13) : List (Bool × Out) := []
noncomputable def z20_13 (p : pl20_13) (s : sl20_13) : Bool := xc20_13_0 s.1 p.1 p.2.1 p.2.2 s.2
noncomputable def d20_13 (p : pl20_13) (s : sl20_13) : Out := (Ex.exit (nat_lit 2), [AV.hp (nat_lit 3) (nat_lit 0), AV.str s.1, AV.rf (nat_lit 4) [Kd.int IntKind.i64, Kd.int IntKind.u8, Kd.int IntKind.u8, Kd.int IntKind.i64, Kd.str]], [Blk.dead, Blk.var [AV.int IntKind.i64 p.1, AV.str p.2.1, AV.bool p.2.2], Blk.row [Kd.int IntKind.i64, Kd.int IntKind.u8, Kd.int IntKind.u8, Kd.int IntKind.i64, Kd.str] s.2])
noncomputable def ls20_13 : St → Option (Bool × List (Bool × Ex × St) × Ex × St) := lspOf [4, 7, 8] [0, 3, 4] [4, 7, 8] [0, 3, 4] Try.f20.ntmps (0 + tab.nid 20) de20_13 (spI g20_13 n20_13 y20_13 z20_13 d20_13)
theorem lo20_13 (rest : Lsp) : LoopOK1 (cfg Try.prog tab 100000 (gk k19 30) (selL 4 ls20_4 (selL 13 ls20_13 rest)) 20 0 Try.f20.ntmps) (loopAt Try.f20 13) := LoopOK1.iter (i := 13) (by kernel_rfl) [4, 7, 8] [0, 3, 4] [4, 7, 8] [0, 3, 4] vt20_13 vc20_13 de20_13 g20_13 n20_13 y20_13 z20_13 d20_13 (fun _ => rfl) de20_13_ok (fun p s => rd20_13 (selL 13 ls20_13 rest) (s.1) (p.1) (p.2.1) (p.2.2) (s.2)) (fun _ _ => rfl)
noncomputable def lsp20 : Lsp := (selL 4 ls20_4 (selL 13 ls20_13 noLsp))
theorem loops20 : ∀ c, Try.f20.body = some c → LoopsOK (cfg Try.prog tab 100000 (gk k19 30) lsp20 20 0 Try.f20.ntmps) c := loops_of [4, 13] (by kernel_rfl) (by kernel_rfl) (fun i hi => by
  simp only [List.mem_cons, List.not_mem_nil, or_false] at hi
  rcases hi with rfl | rfl
  · exact lo20_4 (selL 13 ls20_13 noLsp)
  · exact lo20_13 noLsp)
noncomputable def vev20_0 (g : Int) (s : List UInt8) (d : Bool) (bs : List (List AV)) : Int := bif bif vev24_1 g s d then bif vev24_0 g s d != (0 : Int) then true else d else false then g else bif xc20_4_0 (finL (g20_4 (s, d, (0 : Int), (ByteArray.mk #[]).data.toList, false)) (n20_4 (s, d, (0 : Int), (ByteArray.mk #[]).data.toList, false)) (List.map byteOf bs, g)).fst (finL (g20_4 (s, d, (0 : Int), (ByteArray.mk #[]).data.toList, false)) (n20_4 (s, d, (0 : Int), (ByteArray.mk #[]).data.toList, false)) (List.map byteOf bs, g)).snd s d (0 : Int) (ByteArray.mk #[]).data.toList false then xv20_4_0_1 (finL (g20_4 (s, d, (0 : Int), (ByteArray.mk #[]).data.toList, false)) (n20_4 (s, d, (0 : Int), (ByteArray.mk #[]).data.toList, false)) (List.map byteOf bs, g)).fst (finL (g20_4 (s, d, (0 : Int), (ByteArray.mk #[]).data.toList, false)) (n20_4 (s, d, (0 : Int), (ByteArray.mk #[]).data.toList, false)) (List.map byteOf bs, g)).snd s d (0 : Int) (ByteArray.mk #[]).data.toList false else bif decide (vev32_0 (finL (g20_13 ((0 : Int), (ByteArray.mk #[]).data.toList, false)) (n20_13 ((0 : Int), (ByteArray.mk #[]).data.toList, false)) (s ++ (finL (g20_4 (s, d, (0 : Int), (ByteArray.mk #[]).data.toList, false)) (n20_4 (s, d, (0 : Int), (ByteArray.mk #[]).data.toList, false)) (List.map byteOf bs, g)).fst, [])).fst < (0 : Int)) then (0 : Int) else (24 : Int)
noncomputable def vev20_1 (g : Int) (s : List UInt8) (d : Bool) (bs : List (List AV)) : List UInt8 := bif bif vev24_1 g s d then bif vev24_0 g s d != (0 : Int) then true else d else false then s else bif xc20_4_0 (finL (g20_4 (s, d, (0 : Int), (ByteArray.mk #[]).data.toList, false)) (n20_4 (s, d, (0 : Int), (ByteArray.mk #[]).data.toList, false)) (List.map byteOf bs, g)).fst (finL (g20_4 (s, d, (0 : Int), (ByteArray.mk #[]).data.toList, false)) (n20_4 (s, d, (0 : Int), (ByteArray.mk #[]).data.toList, false)) (List.map byteOf bs, g)).snd s d (0 : Int) (ByteArray.mk #[]).data.toList false then xv20_4_0_2 (finL (g20_4 (s, d, (0 : Int), (ByteArray.mk #[]).data.toList, false)) (n20_4 (s, d, (0 : Int), (ByteArray.mk #[]).data.toList, false)) (List.map byteOf bs, g)).fst (finL (g20_4 (s, d, (0 : Int), (ByteArray.mk #[]).data.toList, false)) (n20_4 (s, d, (0 : Int), (ByteArray.mk #[]).data.toList, false)) (List.map byteOf bs, g)).snd s d (0 : Int) (ByteArray.mk #[]).data.toList false else bif decide (vev32_0 (finL (g20_13 ((0 : Int), (ByteArray.mk #[]).data.toList, false)) (n20_13 ((0 : Int), (ByteArray.mk #[]).data.toList, false)) (s ++ (finL (g20_4 (s, d, (0 : Int), (ByteArray.mk #[]).data.toList, false)) (n20_4 (s, d, (0 : Int), (ByteArray.mk #[]).data.toList, false)) (List.map byteOf bs, g)).fst, [])).fst < (0 : Int)) then (ByteArray.mk #[]).data.toList else (finL (g20_13 ((0 : Int), (ByteArray.mk #[]).data.toList, false)) (n20_13 ((0 : Int), (ByteArray.mk #[]).data.toList, false)) (s ++ (finL (g20_4 (s, d, (0 : Int), (ByteArray.mk #[]).data.toList, false)) (n20_4 (s, d, (0 : Int), (ByteArray.mk #[]).data.toList, false)) (List.map byteOf bs, g)).fst, [])).fst
noncomputable def vev20_2 (g : Int) (s : List UInt8) (d : Bool) (bs : List (List AV)) : Bool := bif bif vev24_1 g s d then bif vev24_0 g s d != (0 : Int) then true else d else false then d else bif xc20_4_0 (finL (g20_4 (s, d, (0 : Int), (ByteArray.mk #[]).data.toList, false)) (n20_4 (s, d, (0 : Int), (ByteArray.mk #[]).data.toList, false)) (List.map byteOf bs, g)).fst (finL (g20_4 (s, d, (0 : Int), (ByteArray.mk #[]).data.toList, false)) (n20_4 (s, d, (0 : Int), (ByteArray.mk #[]).data.toList, false)) (List.map byteOf bs, g)).snd s d (0 : Int) (ByteArray.mk #[]).data.toList false then xv20_4_0_3 (finL (g20_4 (s, d, (0 : Int), (ByteArray.mk #[]).data.toList, false)) (n20_4 (s, d, (0 : Int), (ByteArray.mk #[]).data.toList, false)) (List.map byteOf bs, g)).fst (finL (g20_4 (s, d, (0 : Int), (ByteArray.mk #[]).data.toList, false)) (n20_4 (s, d, (0 : Int), (ByteArray.mk #[]).data.toList, false)) (List.map byteOf bs, g)).snd s d (0 : Int) (ByteArray.mk #[]).data.toList false else bif decide (vev32_0 (finL (g20_13 ((0 : Int), (ByteArray.mk #[]).data.toList, false)) (n20_13 ((0 : Int), (ByteArray.mk #[]).data.toList, false)) (s ++ (finL (g20_4 (s, d, (0 : Int), (ByteArray.mk #[]).data.toList, false)) (n20_4 (s, d, (0 : Int), (ByteArray.mk #[]).data.toList, false)) (List.map byteOf bs, g)).fst, [])).fst < (0 : Int)) then true else false
noncomputable def vev20_3 (g : Int) (s : List UInt8) (d : Bool) (bs : List (List AV)) : List (List AV) := bif bif vev24_1 g s d then bif vev24_0 g s d != (0 : Int) then true else d else false then [] else bif xc20_4_0 (finL (g20_4 (s, d, (0 : Int), (ByteArray.mk #[]).data.toList, false)) (n20_4 (s, d, (0 : Int), (ByteArray.mk #[]).data.toList, false)) (List.map byteOf bs, g)).fst (finL (g20_4 (s, d, (0 : Int), (ByteArray.mk #[]).data.toList, false)) (n20_4 (s, d, (0 : Int), (ByteArray.mk #[]).data.toList, false)) (List.map byteOf bs, g)).snd s d (0 : Int) (ByteArray.mk #[]).data.toList false then [] else (finL (g20_13 ((0 : Int), (ByteArray.mk #[]).data.toList, false)) (n20_13 ((0 : Int), (ByteArray.mk #[]).data.toList, false)) (s ++ (finL (g20_4 (s, d, (0 : Int), (ByteArray.mk #[]).data.toList, false)) (n20_4 (s, d, (0 : Int), (ByteArray.mk #[]).data.toList, false)) (List.map byteOf bs, g)).fst, [])).snd
noncomputable def vev20_4 (g : Int) (s : List UInt8) (d : Bool) (bs : List (List AV)) : Int := bif bif vev24_1 g s d then bif vev24_0 g s d != (0 : Int) then true else d else false then (0 : Int) else bif xc20_4_0 (finL (g20_4 (s, d, (0 : Int), (ByteArray.mk #[]).data.toList, false)) (n20_4 (s, d, (0 : Int), (ByteArray.mk #[]).data.toList, false)) (List.map byteOf bs, g)).fst (finL (g20_4 (s, d, (0 : Int), (ByteArray.mk #[]).data.toList, false)) (n20_4 (s, d, (0 : Int), (ByteArray.mk #[]).data.toList, false)) (List.map byteOf bs, g)).snd s d (0 : Int) (ByteArray.mk #[]).data.toList false then xv20_4_0_0 (finL (g20_4 (s, d, (0 : Int), (ByteArray.mk #[]).data.toList, false)) (n20_4 (s, d, (0 : Int), (ByteArray.mk #[]).data.toList, false)) (List.map byteOf bs, g)).fst (finL (g20_4 (s, d, (0 : Int), (ByteArray.mk #[]).data.toList, false)) (n20_4 (s, d, (0 : Int), (ByteArray.mk #[]).data.toList, false)) (List.map byteOf bs, g)).snd s d (0 : Int) (ByteArray.mk #[]).data.toList false else bif decide (vev32_0 (finL (g20_13 ((0 : Int), (ByteArray.mk #[]).data.toList, false)) (n20_13 ((0 : Int), (ByteArray.mk #[]).data.toList, false)) (s ++ (finL (g20_4 (s, d, (0 : Int), (ByteArray.mk #[]).data.toList, false)) (n20_4 (s, d, (0 : Int), (ByteArray.mk #[]).data.toList, false)) (List.map byteOf bs, g)).fst, [])).fst < (0 : Int)) then (6 : Int) else (0 : Int)
noncomputable def vev20_5 (g : Int) (s : List UInt8) (d : Bool) (bs : List (List AV)) : Bool := bif vev24_1 g s d then bif bif vev24_1 g s d then bif vev24_0 g s d != (0 : Int) then true else d else false then true else bif bs.all isB then bif (spI g20_4 n20_4 y20_4 z20_4 d20_4 ((s, d, (0 : Int), (ByteArray.mk #[]).data.toList, false), List.map byteOf bs, g)).fst then bif xc20_4_0 (finL (g20_4 (s, d, (0 : Int), (ByteArray.mk #[]).data.toList, false)) (n20_4 (s, d, (0 : Int), (ByteArray.mk #[]).data.toList, false)) (List.map byteOf bs, g)).fst (finL (g20_4 (s, d, (0 : Int), (ByteArray.mk #[]).data.toList, false)) (n20_4 (s, d, (0 : Int), (ByteArray.mk #[]).data.toList, false)) (List.map byteOf bs, g)).snd s d (0 : Int) (ByteArray.mk #[]).data.toList false then true else bif decide (s.length + (finL (g20_4 (s, d, (0 : Int), (ByteArray.mk #[]).data.toList, false)) (n20_4 (s, d, (0 : Int), (ByteArray.mk #[]).data.toList, false)) (List.map byteOf bs, g)).fst.length ≤ (9223372036854775807 : Nat)) then bif (spI g20_13 n20_13 y20_13 z20_13 d20_13 (((0 : Int), (ByteArray.mk #[]).data.toList, false), s ++ (finL (g20_4 (s, d, (0 : Int), (ByteArray.mk #[]).data.toList, false)) (n20_4 (s, d, (0 : Int), (ByteArray.mk #[]).data.toList, false)) (List.map byteOf bs, g)).fst, [])).fst then bif vev32_1 (finL (g20_13 ((0 : Int), (ByteArray.mk #[]).data.toList, false)) (n20_13 ((0 : Int), (ByteArray.mk #[]).data.toList, false)) (s ++ (finL (g20_4 (s, d, (0 : Int), (ByteArray.mk #[]).data.toList, false)) (n20_4 (s, d, (0 : Int), (ByteArray.mk #[]).data.toList, false)) (List.map byteOf bs, g)).fst, [])).fst then true else false else false else false else false else false else false
theorem ev20 (g : Int) (s : List UInt8) (d : Bool) (bs : List (List AV)) : evFin (cfg Try.prog tab 100000 (gk k19 30) lsp20 20 ([] : List Blk).length Try.f20.ntmps) ([] : List Blk).length Try.f20.resultTypes.toList Try.f20 [.agg [.int .i64 g, .str s, .bool d], .sl .imm [.int .u8] bs] [] = bif vev20_5 g s d bs then some (true, AV.tup [AV.agg [AV.int IntKind.i64 (vev20_0 g s d bs), AV.str (vev20_1 g s d bs), AV.bool (vev20_2 g s d bs)], AV.sl Tk.imm [Kd.int IntKind.i64, Kd.int IntKind.u8, Kd.int IntKind.u8, Kd.int IntKind.i64, Kd.str] (vev20_3 g s d bs), AV.int IntKind.i64 (vev20_4 g s d bs)], []) else none := by
  have h : evFin (cfg Try.prog tab 100000 (gk k19 30) lsp20 20 ([] : List Blk).length Try.f20.ntmps) ([] : List Blk).length Try.f20.resultTypes.toList Try.f20 [.agg [.int .i64 g, .str s, .bool d], .sl .imm [.int .u8] bs] [] = bif bif vev24_1 g s d then bif vev24_0 g s d != (0 : Int) then true else true else false then bif bif vev24_1 g s d then bif vev24_0 g s d != (0 : Int) then true else bif false then true else d else false then some (true, AV.tup [AV.agg [AV.int IntKind.i64 g, AV.str s, AV.bool d], AV.sl Tk.imm [Kd.int IntKind.i64, Kd.int IntKind.u8, Kd.int IntKind.u8, Kd.int IntKind.i64, Kd.str] [], AV.int IntKind.i64 (0 : Int)], []) else bif bs.all isB then bif (spI g20_4 n20_4 y20_4 z20_4 d20_4 ((s, d, (0 : Int), (ByteArray.mk #[]).data.toList, false), List.map byteOf bs, g)).fst then bif xc20_4_0 (finL (g20_4 (s, d, (0 : Int), (ByteArray.mk #[]).data.toList, false)) (n20_4 (s, d, (0 : Int), (ByteArray.mk #[]).data.toList, false)) (List.map byteOf bs, g)).fst (finL (g20_4 (s, d, (0 : Int), (ByteArray.mk #[]).data.toList, false)) (n20_4 (s, d, (0 : Int), (ByteArray.mk #[]).data.toList, false)) (List.map byteOf bs, g)).snd s d (0 : Int) (ByteArray.mk #[]).data.toList false then some (true, AV.tup [AV.agg [AV.int IntKind.i64 (xv20_4_0_1 (finL (g20_4 (s, d, (0 : Int), (ByteArray.mk #[]).data.toList, false)) (n20_4 (s, d, (0 : Int), (ByteArray.mk #[]).data.toList, false)) (List.map byteOf bs, g)).fst (finL (g20_4 (s, d, (0 : Int), (ByteArray.mk #[]).data.toList, false)) (n20_4 (s, d, (0 : Int), (ByteArray.mk #[]).data.toList, false)) (List.map byteOf bs, g)).snd s d (0 : Int) (ByteArray.mk #[]).data.toList false), AV.str (xv20_4_0_2 (finL (g20_4 (s, d, (0 : Int), (ByteArray.mk #[]).data.toList, false)) (n20_4 (s, d, (0 : Int), (ByteArray.mk #[]).data.toList, false)) (List.map byteOf bs, g)).fst (finL (g20_4 (s, d, (0 : Int), (ByteArray.mk #[]).data.toList, false)) (n20_4 (s, d, (0 : Int), (ByteArray.mk #[]).data.toList, false)) (List.map byteOf bs, g)).snd s d (0 : Int) (ByteArray.mk #[]).data.toList false), AV.bool (xv20_4_0_3 (finL (g20_4 (s, d, (0 : Int), (ByteArray.mk #[]).data.toList, false)) (n20_4 (s, d, (0 : Int), (ByteArray.mk #[]).data.toList, false)) (List.map byteOf bs, g)).fst (finL (g20_4 (s, d, (0 : Int), (ByteArray.mk #[]).data.toList, false)) (n20_4 (s, d, (0 : Int), (ByteArray.mk #[]).data.toList, false)) (List.map byteOf bs, g)).snd s d (0 : Int) (ByteArray.mk #[]).data.toList false)], AV.sl Tk.imm [Kd.int IntKind.i64, Kd.int IntKind.u8, Kd.int IntKind.u8, Kd.int IntKind.i64, Kd.str] [], AV.int IntKind.i64 (xv20_4_0_0 (finL (g20_4 (s, d, (0 : Int), (ByteArray.mk #[]).data.toList, false)) (n20_4 (s, d, (0 : Int), (ByteArray.mk #[]).data.toList, false)) (List.map byteOf bs, g)).fst (finL (g20_4 (s, d, (0 : Int), (ByteArray.mk #[]).data.toList, false)) (n20_4 (s, d, (0 : Int), (ByteArray.mk #[]).data.toList, false)) (List.map byteOf bs, g)).snd s d (0 : Int) (ByteArray.mk #[]).data.toList false)], []) else bif decide (s.length + (finL (g20_4 (s, d, (0 : Int), (ByteArray.mk #[]).data.toList, false)) (n20_4 (s, d, (0 : Int), (ByteArray.mk #[]).data.toList, false)) (List.map byteOf bs, g)).fst.length ≤ (9223372036854775807 : Nat)) then bif (spI g20_13 n20_13 y20_13 z20_13 d20_13 (((0 : Int), (ByteArray.mk #[]).data.toList, false), s ++ (finL (g20_4 (s, d, (0 : Int), (ByteArray.mk #[]).data.toList, false)) (n20_4 (s, d, (0 : Int), (ByteArray.mk #[]).data.toList, false)) (List.map byteOf bs, g)).fst, [])).fst then bif vev32_1 (finL (g20_13 ((0 : Int), (ByteArray.mk #[]).data.toList, false)) (n20_13 ((0 : Int), (ByteArray.mk #[]).data.toList, false)) (s ++ (finL (g20_4 (s, d, (0 : Int), (ByteArray.mk #[]).data.toList, false)) (n20_4 (s, d, (0 : Int), (ByteArray.mk #[]).data.toList, false)) (List.map byteOf bs, g)).fst, [])).fst then bif decide (vev32_0 (finL (g20_13 ((0 : Int), (ByteArray.mk #[]).data.toList, false)) (n20_13 ((0 : Int), (ByteArray.mk #[]).data.toList, false)) (s ++ (finL (g20_4 (s, d, (0 : Int), (ByteArray.mk #[]).data.toList, false)) (n20_4 (s, d, (0 : Int), (ByteArray.mk #[]).data.toList, false)) (List.map byteOf bs, g)).fst, [])).fst < (0 : Int)) then some (true, AV.tup [AV.agg [AV.int IntKind.i64 (0 : Int), AV.str (ByteArray.mk #[]).data.toList, AV.bool true], AV.sl Tk.imm [Kd.int IntKind.i64, Kd.int IntKind.u8, Kd.int IntKind.u8, Kd.int IntKind.i64, Kd.str] (finL (g20_13 ((0 : Int), (ByteArray.mk #[]).data.toList, false)) (n20_13 ((0 : Int), (ByteArray.mk #[]).data.toList, false)) (s ++ (finL (g20_4 (s, d, (0 : Int), (ByteArray.mk #[]).data.toList, false)) (n20_4 (s, d, (0 : Int), (ByteArray.mk #[]).data.toList, false)) (List.map byteOf bs, g)).fst, [])).snd, AV.int IntKind.i64 (6 : Int)], []) else some (true, AV.tup [AV.agg [AV.int IntKind.i64 (24 : Int), AV.str (finL (g20_13 ((0 : Int), (ByteArray.mk #[]).data.toList, false)) (n20_13 ((0 : Int), (ByteArray.mk #[]).data.toList, false)) (s ++ (finL (g20_4 (s, d, (0 : Int), (ByteArray.mk #[]).data.toList, false)) (n20_4 (s, d, (0 : Int), (ByteArray.mk #[]).data.toList, false)) (List.map byteOf bs, g)).fst, [])).fst, AV.bool false], AV.sl Tk.imm [Kd.int IntKind.i64, Kd.int IntKind.u8, Kd.int IntKind.u8, Kd.int IntKind.i64, Kd.str] (finL (g20_13 ((0 : Int), (ByteArray.mk #[]).data.toList, false)) (n20_13 ((0 : Int), (ByteArray.mk #[]).data.toList, false)) (s ++ (finL (g20_4 (s, d, (0 : Int), (ByteArray.mk #[]).data.toList, false)) (n20_4 (s, d, (0 : Int), (ByteArray.mk #[]).data.toList, false)) (List.map byteOf bs, g)).fst, [])).snd, AV.int IntKind.i64 (0 : Int)], []) else none else none else none else none else none else none := by kernel_rfl
  rw [h]
  clear h
  unfold vev20_0 vev20_1 vev20_2 vev20_3 vev20_4 vev20_5
  generalize (decide (vev32_0 (finL (g20_13 ((0 : Int), (ByteArray.mk #[]).data.toList, false)) (n20_13 ((0 : Int), (ByteArray.mk #[]).data.toList, false)) (s ++ (finL (g20_4 (s, d, (0 : Int), (ByteArray.mk #[]).data.toList, false)) (n20_4 (s, d, (0 : Int), (ByteArray.mk #[]).data.toList, false)) (List.map byteOf bs, g)).fst, [])).fst < (0 : Int))) = c0
  generalize (decide (s.length + (finL (g20_4 (s, d, (0 : Int), (ByteArray.mk #[]).data.toList, false)) (n20_4 (s, d, (0 : Int), (ByteArray.mk #[]).data.toList, false)) (List.map byteOf bs, g)).fst.length ≤ (9223372036854775807 : Nat))) = c1
  generalize (xc20_4_0 (finL (g20_4 (s, d, (0 : Int), (ByteArray.mk #[]).data.toList, false)) (n20_4 (s, d, (0 : Int), (ByteArray.mk #[]).data.toList, false)) (List.map byteOf bs, g)).fst (finL (g20_4 (s, d, (0 : Int), (ByteArray.mk #[]).data.toList, false)) (n20_4 (s, d, (0 : Int), (ByteArray.mk #[]).data.toList, false)) (List.map byteOf bs, g)).snd s d (0 : Int) (ByteArray.mk #[]).data.toList false) = c2
  generalize (vev32_1 (finL (g20_13 ((0 : Int), (ByteArray.mk #[]).data.toList, false)) (n20_13 ((0 : Int), (ByteArray.mk #[]).data.toList, false)) (s ++ (finL (g20_4 (s, d, (0 : Int), (ByteArray.mk #[]).data.toList, false)) (n20_4 (s, d, (0 : Int), (ByteArray.mk #[]).data.toList, false)) (List.map byteOf bs, g)).fst, [])).fst) = c3
  generalize ((spI g20_13 n20_13 y20_13 z20_13 d20_13 (((0 : Int), (ByteArray.mk #[]).data.toList, false), s ++ (finL (g20_4 (s, d, (0 : Int), (ByteArray.mk #[]).data.toList, false)) (n20_4 (s, d, (0 : Int), (ByteArray.mk #[]).data.toList, false)) (List.map byteOf bs, g)).fst, [])).fst) = c4
  generalize ((spI g20_4 n20_4 y20_4 z20_4 d20_4 ((s, d, (0 : Int), (ByteArray.mk #[]).data.toList, false), List.map byteOf bs, g)).fst) = c5
  generalize (vev24_0 g s d != (0 : Int)) = c6
  generalize (bs.all isB) = c7
  generalize (vev24_1 g s d) = c8
  generalize (d) = c9
  cases c8
  · skip
    rfl
  · skip
    cases c6
    · skip
      cases c9
      · skip
        cases c7
        · skip
          rfl
        · skip
          cases c5
          · skip
            rfl
          · skip
            cases c2
            · skip
              cases c1
              · skip
                rfl
              · skip
                cases c4
                · skip
                  rfl
                · skip
                  cases c3
                  · skip
                    rfl
                  · skip
                    cases c0
                    · skip
                      rfl
                    · skip
                      rfl
            · skip
              rfl
      · skip
        rfl
    · skip
      rfl
-- spec vev20_5 g s d bs ;; (true, AV.tup [AV.agg [AV.int IntKind.i64 (vev20_0 g s d bs), AV.str (vev20_1 g s d bs), AV.bool (vev20_2 g s d bs)], AV.sl Tk.imm [Kd.int IntKind.i64, Kd.int IntKind.u8, Kd.int IntKind.u8, Kd.int IntKind.i64, Kd.str] (vev20_3 g s d bs), AV.int IntKind.i64 (vev20_4 g s d bs)], [])
noncomputable def sp20 : List AV → List Blk → Option (Bool × AV × List Blk)
  | [.agg [.int .i64 g, .str s, .bool d], .sl .imm [.int .u8] bs], [] => spW (vev20_5 g s d bs) (some ((true, AV.tup [AV.agg [AV.int IntKind.i64 (vev20_0 g s d bs), AV.str (vev20_1 g s d bs), AV.bool (vev20_2 g s d bs)], AV.sl Tk.imm [Kd.int IntKind.i64, Kd.int IntKind.u8, Kd.int IntKind.u8, Kd.int IntKind.i64, Kd.str] (vev20_3 g s d bs), AV.int IntKind.i64 (vev20_4 g s d bs)], [])))
  | _, _ => none
noncomputable def k20 : Gam := fun f T C => match Nat.beq f 20 with
  | true => (sp20 T C).or (k19 f T C)
  | false => k19 f T C
theorem k20_ok : GamOK Try.prog k20 := by
  intro f T C r outs h
  unfold k20 at h
  cases hf : Nat.beq f 20 with
  | false => rw [hf] at h; exact k19_ok f T C r outs h
  | true =>
    have hf' := Nat.eq_of_beq_eq_true hf
    subst hf'
    rw [hf] at h
    dsimp only at h
    cases hs : sp20 T C with
    | none => rw [hs] at h; exact k19_ok _ T C r outs h
    | some x =>
      rw [hs] at h
      have hx : x = (true, r, outs) := by simpa using h
      subst hx
      unfold sp20 at hs
      split at hs
      · rename_i g s d bs
        obtain ⟨hb, rfl, rfl⟩ := spT_inv hs
        have he := ev20 g s d bs
        rw [hb, cond_true] at he
        obtain ⟨r0, o0, h0, he⟩ := evFin_inv he
        obtain ⟨h1, h2⟩ := fn_ok mixed plain (gk_ok k19_ok 30) Try.func20 loops20 h0
        exact ⟨h1, h2.fin he⟩
      · cases hs
noncomputable def go21_4 (t0k : Tk) (t0 : List (List AV)) (t1k : Tk) (t1 : List (List AV)) (t5 : Int) : Bool := bif decide (t5 < (↑t0.length : Int)) then bif decide ((0 : Int) ≤ t5) && decide (t5 < (↑t0.length : Int)) then bif decide ((0 : Int) ≤ t5) && decide (t5 < (↑t1.length : Int)) then bif !(intOf ((t0.getD t5.toNat []).getD (0 : Nat) AV.junk) == intOf ((t1.getD t5.toNat []).getD (0 : Nat) AV.junk) && (intOf ((t0.getD t5.toNat []).getD ((0 : Nat) + (1 : Nat)) AV.junk) == intOf ((t1.getD t5.toNat []).getD ((0 : Nat) + (1 : Nat)) AV.junk) && (intOf ((t0.getD t5.toNat []).getD ((0 : Nat) + (1 : Nat) + (1 : Nat)) AV.junk) == intOf ((t1.getD t5.toNat []).getD ((0 : Nat) + (1 : Nat) + (1 : Nat)) AV.junk) && (intOf ((t0.getD t5.toNat []).getD ((0 : Nat) + (1 : Nat) + (1 : Nat) + (1 : Nat)) AV.junk) == intOf ((t1.getD t5.toNat []).getD ((0 : Nat) + (1 : Nat) + (1 : Nat) + (1 : Nat)) AV.junk) && true))) && (strOf ((t0.getD t5.toNat []).getD ((0 : Nat) + (1 : Nat) + (1 : Nat) + (1 : Nat) + (1 : Nat)) AV.junk) == strOf ((t1.getD t5.toNat []).getD ((0 : Nat) + (1 : Nat) + (1 : Nat) + (1 : Nat) + (1 : Nat)) AV.junk) && true)) then false else true else false else false else false
noncomputable def nx21_4_4 (t0k : Tk) (t0 : List (List AV)) (t1k : Tk) (t1 : List (List AV)) (t5 : Int) : Int := IntKind.i64.wrap (t5 + (1 : Int))
noncomputable def xc21_4_0 (t0k : Tk) (t0 : List (List AV)) (t1k : Tk) (t1 : List (List AV)) (t5 : Int) : Bool := bif decide (t5 < (↑t0.length : Int)) then bif decide ((0 : Int) ≤ t5) && decide (t5 < (↑t0.length : Int)) then bif decide ((0 : Int) ≤ t5) && decide (t5 < (↑t1.length : Int)) then !(intOf ((t0.getD t5.toNat []).getD (0 : Nat) AV.junk) == intOf ((t1.getD t5.toNat []).getD (0 : Nat) AV.junk) && (intOf ((t0.getD t5.toNat []).getD ((0 : Nat) + (1 : Nat)) AV.junk) == intOf ((t1.getD t5.toNat []).getD ((0 : Nat) + (1 : Nat)) AV.junk) && (intOf ((t0.getD t5.toNat []).getD ((0 : Nat) + (1 : Nat) + (1 : Nat)) AV.junk) == intOf ((t1.getD t5.toNat []).getD ((0 : Nat) + (1 : Nat) + (1 : Nat)) AV.junk) && (intOf ((t0.getD t5.toNat []).getD ((0 : Nat) + (1 : Nat) + (1 : Nat) + (1 : Nat)) AV.junk) == intOf ((t1.getD t5.toNat []).getD ((0 : Nat) + (1 : Nat) + (1 : Nat) + (1 : Nat)) AV.junk) && true))) && (strOf ((t0.getD t5.toNat []).getD ((0 : Nat) + (1 : Nat) + (1 : Nat) + (1 : Nat) + (1 : Nat)) AV.junk) == strOf ((t1.getD t5.toNat []).getD ((0 : Nat) + (1 : Nat) + (1 : Nat) + (1 : Nat) + (1 : Nat)) AV.junk) && true)) else false else false else false
noncomputable def xc21_4_1 (t0k : Tk) (t0 : List (List AV)) (t1k : Tk) (t1 : List (List AV)) (t5 : Int) : Bool := bif decide (t5 < (↑t0.length : Int)) then false else true
theorem rd21_4 (rest : Lsp) (t0k : Tk) (t0 : List (List AV)) (t1k : Tk) (t1 : List (List AV)) (t5 : Int) : roundV (cfg Try.prog tab 100000 (gk k20 30) rest 21 0 Try.f21.ntmps) (loopAt Try.f21 4) [0, 1, 5] [] [4] [] [AV.sl t0k [Kd.int IntKind.i64, Kd.int IntKind.u8, Kd.int IntKind.u8, Kd.int IntKind.i64, Kd.str] t0, AV.sl t1k [Kd.int IntKind.i64, Kd.int IntKind.u8, Kd.int IntKind.u8, Kd.int IntKind.i64, Kd.str] t1, AV.int IntKind.i64 t5] [] = bif go21_4 t0k t0 t1k t1 t5 then some (Ex.norm, [AV.sl t0k [Kd.int IntKind.i64, Kd.int IntKind.u8, Kd.int IntKind.u8, Kd.int IntKind.i64, Kd.str] t0, AV.sl t1k [Kd.int IntKind.i64, Kd.int IntKind.u8, Kd.int IntKind.u8, Kd.int IntKind.i64, Kd.str] t1, AV.int IntKind.i64 (nx21_4_4 t0k t0 t1k t1 t5)], []) else bif xc21_4_0 t0k t0 t1k t1 t5 then some (Ex.ret, [AV.bool false], []) else bif xc21_4_1 t0k t0 t1k t1 t5 then some (Ex.exit (nat_lit 0), [AV.junk], []) else none := by
  have h : roundV (cfg Try.prog tab 100000 (gk k20 30) rest 21 0 Try.f21.ntmps) (loopAt Try.f21 4) [0, 1, 5] [] [4] [] [AV.sl t0k [Kd.int IntKind.i64, Kd.int IntKind.u8, Kd.int IntKind.u8, Kd.int IntKind.i64, Kd.str] t0, AV.sl t1k [Kd.int IntKind.i64, Kd.int IntKind.u8, Kd.int IntKind.u8, Kd.int IntKind.i64, Kd.str] t1, AV.int IntKind.i64 t5] [] = bif decide (t5 < (↑t0.length : Int)) then bif decide ((0 : Int) ≤ t5) && decide (t5 < (↑t0.length : Int)) then bif decide ((0 : Int) ≤ t5) && decide (t5 < (↑t1.length : Int)) then bif !(intOf ((t0.getD t5.toNat []).getD (0 : Nat) AV.junk) == intOf ((t1.getD t5.toNat []).getD (0 : Nat) AV.junk) && (intOf ((t0.getD t5.toNat []).getD ((0 : Nat) + (1 : Nat)) AV.junk) == intOf ((t1.getD t5.toNat []).getD ((0 : Nat) + (1 : Nat)) AV.junk) && (intOf ((t0.getD t5.toNat []).getD ((0 : Nat) + (1 : Nat) + (1 : Nat)) AV.junk) == intOf ((t1.getD t5.toNat []).getD ((0 : Nat) + (1 : Nat) + (1 : Nat)) AV.junk) && (intOf ((t0.getD t5.toNat []).getD ((0 : Nat) + (1 : Nat) + (1 : Nat) + (1 : Nat)) AV.junk) == intOf ((t1.getD t5.toNat []).getD ((0 : Nat) + (1 : Nat) + (1 : Nat) + (1 : Nat)) AV.junk) && true))) && (strOf ((t0.getD t5.toNat []).getD ((0 : Nat) + (1 : Nat) + (1 : Nat) + (1 : Nat) + (1 : Nat)) AV.junk) == strOf ((t1.getD t5.toNat []).getD ((0 : Nat) + (1 : Nat) + (1 : Nat) + (1 : Nat) + (1 : Nat)) AV.junk) && true)) then some (Ex.ret, [AV.bool false], []) else some (Ex.norm, [AV.sl t0k [Kd.int IntKind.i64, Kd.int IntKind.u8, Kd.int IntKind.u8, Kd.int IntKind.i64, Kd.str] t0, AV.sl t1k [Kd.int IntKind.i64, Kd.int IntKind.u8, Kd.int IntKind.u8, Kd.int IntKind.i64, Kd.str] t1, AV.int IntKind.i64 (IntKind.i64.wrap (t5 + (1 : Int)))], []) else none else none else some (Ex.exit (nat_lit 0), [AV.junk], []) := by kernel_rfl
  rw [h]
  clear h
  unfold go21_4 nx21_4_4 xc21_4_0 xc21_4_1
  generalize (!(intOf ((t0.getD t5.toNat []).getD (0 : Nat) AV.junk) == intOf ((t1.getD t5.toNat []).getD (0 : Nat) AV.junk) && (intOf ((t0.getD t5.toNat []).getD ((0 : Nat) + (1 : Nat)) AV.junk) == intOf ((t1.getD t5.toNat []).getD ((0 : Nat) + (1 : Nat)) AV.junk) && (intOf ((t0.getD t5.toNat []).getD ((0 : Nat) + (1 : Nat) + (1 : Nat)) AV.junk) == intOf ((t1.getD t5.toNat []).getD ((0 : Nat) + (1 : Nat) + (1 : Nat)) AV.junk) && (intOf ((t0.getD t5.toNat []).getD ((0 : Nat) + (1 : Nat) + (1 : Nat) + (1 : Nat)) AV.junk) == intOf ((t1.getD t5.toNat []).getD ((0 : Nat) + (1 : Nat) + (1 : Nat) + (1 : Nat)) AV.junk) && true))) && (strOf ((t0.getD t5.toNat []).getD ((0 : Nat) + (1 : Nat) + (1 : Nat) + (1 : Nat) + (1 : Nat)) AV.junk) == strOf ((t1.getD t5.toNat []).getD ((0 : Nat) + (1 : Nat) + (1 : Nat) + (1 : Nat) + (1 : Nat)) AV.junk) && true))) = c0
  generalize (decide ((0 : Int) ≤ t5) && decide (t5 < (↑t0.length : Int))) = c1
  generalize (decide ((0 : Int) ≤ t5) && decide (t5 < (↑t1.length : Int))) = c2
  generalize (decide (t5 < (↑t0.length : Int))) = c3
  cases c3
  · skip
    rfl
  · skip
    cases c1
    · skip
      rfl
    · skip
      cases c2
      · skip
        rfl
      · skip
        cases c0
        · skip
          rfl
        · skip
          rfl
abbrev pl21_4 : Type := Tk × (List (List AV)) × Tk × (List (List AV))
abbrev sl21_4 : Type := Int
noncomputable def vt21_4 (a : pl21_4 × sl21_4) : List AV := [AV.sl a.1.1 [Kd.int IntKind.i64, Kd.int IntKind.u8, Kd.int IntKind.u8, Kd.int IntKind.i64, Kd.str] a.1.2.1, AV.sl a.1.2.2.1 [Kd.int IntKind.i64, Kd.int IntKind.u8, Kd.int IntKind.u8, Kd.int IntKind.i64, Kd.str] a.1.2.2.2, AV.int IntKind.i64 a.2]
noncomputable def vc21_4 (a : pl21_4 × sl21_4) : List Blk := []
noncomputable def de21_4 (vt : List AV) (vc : List Blk) : Option (pl21_4 × sl21_4) :=
  match vt with
  | [qa0, qa1, qa2] => (match vc with
  | [] => (match qa0 with
  | AV.sl t0k [Kd.int IntKind.i64, Kd.int IntKind.u8, Kd.int IntKind.u8, Kd.int IntKind.i64, Kd.str] t0 => (match qa1 with
  | AV.sl t1k [Kd.int IntKind.i64, Kd.int IntKind.u8, Kd.int IntKind.u8, Kd.int IntKind.i64, Kd.str] t1 => (match qa2 with
  | AV.int IntKind.i64 t5 => (some ((t0k, t0, t1k, t1), t5))
  | _ => none)
  | _ => none)
  | _ => none)
  | _ => none)
  | _ => none
theorem de21_4_ok (vt : List AV) (vc : List Blk) (a : pl21_4 × sl21_4) (h : de21_4 vt vc = some a) : vt = vt21_4 a ∧ vc = vc21_4 a := by
  unfold de21_4 at h
  split at h
  rotate_left
  · cases h
  split at h
  rotate_left
  · cases h
  split at h
  rotate_left
  · cases h
  split at h
  rotate_left
  · cases h
  split at h
  rotate_left
  · cases h
  injection h with h
  subst h
  exact ⟨rfl, rfl⟩
noncomputable def g21_4 (p : pl21_4) (s : sl21_4) : Bool := go21_4 p.1 p.2.1 p.2.2.1 p.2.2.2 s
noncomputable def n21_4 (p : pl21_4) (s : sl21_4) : sl21_4 := nx21_4_4 p.1 p.2.1 p.2.2.1 p.2.2.2 s
noncomputable def y21_4 (p : pl21_4) (s : sl21_4) : List (Bool × Out) := [(xc21_4_0 p.1 p.2.1 p.2.2.1 p.2.2.2 s, (Ex.ret, [AV.bool false], []))]
noncomputable def z21_4 (p : pl21_4) (s : sl21_4) : Bool := xc21_4_1 p.1 p.2.1 p.2.2.1 p.2.2.2 s
noncomputable def d21_4 (p : pl21_4) (s : sl21_4) : Out := (Ex.exit (nat_lit 0), [AV.junk], [])
noncomputable def ls21_4 : St → Option (Bool × List (Bool × Ex × St) × Ex × St) := lspOf [0, 1, 5] [] [4] [] Try.f21.ntmps (0 + tab.nid 21) de21_4 (spI g21_4 n21_4 y21_4 z21_4 d21_4)
theorem lo21_4 (rest : Lsp) : LoopOK1 (cfg Try.prog tab 100000 (gk k20 30) (selL 4 ls21_4 rest) 21 0 Try.f21.ntmps) (loopAt Try.f21 4) := LoopOK1.iter (i := 4) (by kernel_rfl) [0, 1, 5] [] [4] [] vt21_4 vc21_4 de21_4 g21_4 n21_4 y21_4 z21_4 d21_4 (fun _ => rfl) de21_4_ok (fun p s => rd21_4 (selL 4 ls21_4 rest) (p.1) (p.2.1) (p.2.2.1) (p.2.2.2) s) (fun _ _ => rfl)
noncomputable def lsp21 : Lsp := (selL 4 ls21_4 noLsp)
theorem loops21 : ∀ c, Try.f21.body = some c → LoopsOK (cfg Try.prog tab 100000 (gk k20 30) lsp21 21 0 Try.f21.ntmps) c := loops_of [4] (by kernel_rfl) (by kernel_rfl) (fun i hi => by
  simp only [List.mem_cons, List.not_mem_nil, or_false] at hi
  subst hi
  · exact lo21_4 noLsp)
noncomputable def vev21_0 (tk1 : Tk) (tk2 : Tk) (es : List (List AV)) (fs : List (List AV)) : Bool := bif (↑es.length : Int) != (↑fs.length : Int) then false else bif xc21_4_0 tk1 es tk2 fs (finL (g21_4 (tk1, es, tk2, fs)) (n21_4 (tk1, es, tk2, fs)) (0 : Int)) then false else true
noncomputable def vev21_1 (tk1 : Tk) (tk2 : Tk) (es : List (List AV)) (fs : List (List AV)) : Bool := bif (↑es.length : Int) != (↑fs.length : Int) then true else bif (spI g21_4 n21_4 y21_4 z21_4 d21_4 ((tk1, es, tk2, fs), (0 : Int))).fst then true else false
theorem ev21 (tk1 : Tk) (tk2 : Tk) (es : List (List AV)) (fs : List (List AV)) : evFin (cfg Try.prog tab 100000 (gk k20 30) lsp21 21 ([] : List Blk).length Try.f21.ntmps) ([] : List Blk).length Try.f21.resultTypes.toList Try.f21 [.sl tk1 [.int .i64, .int .u8, .int .u8, .int .i64, .str] es, .sl tk2 [.int .i64, .int .u8, .int .u8, .int .i64, .str] fs] [] = bif vev21_1 tk1 tk2 es fs then some (true, AV.bool (vev21_0 tk1 tk2 es fs), []) else none := by
  have h : evFin (cfg Try.prog tab 100000 (gk k20 30) lsp21 21 ([] : List Blk).length Try.f21.ntmps) ([] : List Blk).length Try.f21.resultTypes.toList Try.f21 [.sl tk1 [.int .i64, .int .u8, .int .u8, .int .i64, .str] es, .sl tk2 [.int .i64, .int .u8, .int .u8, .int .i64, .str] fs] [] = bif (↑es.length : Int) != (↑fs.length : Int) then some (true, AV.bool false, []) else bif (spI g21_4 n21_4 y21_4 z21_4 d21_4 ((tk1, es, tk2, fs), (0 : Int))).fst then bif xc21_4_0 tk1 es tk2 fs (finL (g21_4 (tk1, es, tk2, fs)) (n21_4 (tk1, es, tk2, fs)) (0 : Int)) then some (true, AV.bool false, []) else some (true, AV.bool true, []) else none := by kernel_rfl
  rw [h]
  clear h
  unfold vev21_0 vev21_1
  generalize (xc21_4_0 tk1 es tk2 fs (finL (g21_4 (tk1, es, tk2, fs)) (n21_4 (tk1, es, tk2, fs)) (0 : Int))) = c0
  generalize ((spI g21_4 n21_4 y21_4 z21_4 d21_4 ((tk1, es, tk2, fs), (0 : Int))).fst) = c1
  generalize ((↑es.length : Int) != (↑fs.length : Int)) = c2
  cases c2
  · skip
    cases c1
    · skip
      rfl
    · skip
      cases c0
      · skip
        rfl
      · skip
        rfl
  · skip
    rfl
-- spec vev21_1 tk1 tk2 es fs ;; (true, AV.bool (vev21_0 tk1 tk2 es fs), [])
noncomputable def sp21 : List AV → List Blk → Option (Bool × AV × List Blk)
  | [.sl tk1 [.int .i64, .int .u8, .int .u8, .int .i64, .str] es, .sl tk2 [.int .i64, .int .u8, .int .u8, .int .i64, .str] fs], [] => spW (vev21_1 tk1 tk2 es fs) (some ((true, AV.bool (vev21_0 tk1 tk2 es fs), [])))
  | _, _ => none
noncomputable def k21 : Gam := fun f T C => match Nat.beq f 21 with
  | true => (sp21 T C).or (k20 f T C)
  | false => k20 f T C
theorem k21_ok : GamOK Try.prog k21 := by
  intro f T C r outs h
  unfold k21 at h
  cases hf : Nat.beq f 21 with
  | false => rw [hf] at h; exact k20_ok f T C r outs h
  | true =>
    have hf' := Nat.eq_of_beq_eq_true hf
    subst hf'
    rw [hf] at h
    dsimp only at h
    cases hs : sp21 T C with
    | none => rw [hs] at h; exact k20_ok _ T C r outs h
    | some x =>
      rw [hs] at h
      have hx : x = (true, r, outs) := by simpa using h
      subst hx
      unfold sp21 at hs
      split at hs
      · rename_i tk1 es tk2 fs
        obtain ⟨hb, rfl, rfl⟩ := spT_inv hs
        have he := ev21 tk1 tk2 es fs
        rw [hb, cond_true] at he
        obtain ⟨r0, o0, h0, he⟩ := evFin_inv he
        obtain ⟨h1, h2⟩ := fn_ok mixed plain (gk_ok k20_ok 30) Try.func21 loops21 h0
        exact ⟨h1, h2.fin he⟩
      · cases hs
noncomputable def go22_3 (t0 : List (List AV)) (t4 : Int) (b1 : List (List AV)) : Bool := bif decide (t4 < (↑t0.length : Int)) then bif decide ((0 : Int) ≤ t4) && decide (t4 < (↑t0.length : Int)) then bif decide ((b1.length + (1 : Nat)) * (40 : Nat) ≤ (140737488355328 : Nat)) then decide (b1.length + (1 : Nat) ≤ (9223372036854775807 : Nat)) else false else false else false
noncomputable def nx22_3_1 (t0 : List (List AV)) (t4 : Int) (b1 : List (List AV)) : Int := IntKind.i64.wrap (t4 + (1 : Int))
noncomputable def nx22_3_2 (t0 : List (List AV)) (t4 : Int) (b1 : List (List AV)) : List (List AV) := b1 ++ [[AV.int IntKind.i64 (intOf ((t0.getD t4.toNat []).getD (0 : Nat) AV.junk)), AV.int IntKind.u8 (intOf ((t0.getD t4.toNat []).getD ((0 : Nat) + (1 : Nat)) AV.junk)), AV.int IntKind.u8 (intOf ((t0.getD t4.toNat []).getD ((0 : Nat) + (1 : Nat) + (1 : Nat)) AV.junk)), AV.int IntKind.i64 (intOf ((t0.getD t4.toNat []).getD ((0 : Nat) + (1 : Nat) + (1 : Nat) + (1 : Nat)) AV.junk)), AV.str (strOf ((t0.getD t4.toNat []).getD ((0 : Nat) + (1 : Nat) + (1 : Nat) + (1 : Nat) + (1 : Nat)) AV.junk))]]
noncomputable def xc22_3_0 (t0 : List (List AV)) (t4 : Int) (b1 : List (List AV)) : Bool := bif decide (t4 < (↑t0.length : Int)) then false else true
theorem rd22_3 (rest : Lsp) (t0 : List (List AV)) (t4 : Int) (b1 : List (List AV)) : roundV (cfg Try.prog tab 100000 (gk k21 30) rest 22 0 Try.f22.ntmps) (loopAt Try.f22 3) [0, 3, 4] [0, 1] [3] [0, 1] [AV.sl Tk.imm [Kd.int IntKind.i64, Kd.int IntKind.u8, Kd.int IntKind.u8, Kd.int IntKind.i64, Kd.str] t0, AV.rf (nat_lit 1) [Kd.int IntKind.i64, Kd.int IntKind.u8, Kd.int IntKind.u8, Kd.int IntKind.i64, Kd.str], AV.int IntKind.i64 t4] [Blk.dead, Blk.row [Kd.int IntKind.i64, Kd.int IntKind.u8, Kd.int IntKind.u8, Kd.int IntKind.i64, Kd.str] b1] = bif go22_3 t0 t4 b1 then some (Ex.norm, [AV.sl Tk.imm [Kd.int IntKind.i64, Kd.int IntKind.u8, Kd.int IntKind.u8, Kd.int IntKind.i64, Kd.str] t0, AV.rf (nat_lit 1) [Kd.int IntKind.i64, Kd.int IntKind.u8, Kd.int IntKind.u8, Kd.int IntKind.i64, Kd.str], AV.int IntKind.i64 (nx22_3_1 t0 t4 b1)], [Blk.dead, Blk.row [Kd.int IntKind.i64, Kd.int IntKind.u8, Kd.int IntKind.u8, Kd.int IntKind.i64, Kd.str] (nx22_3_2 t0 t4 b1)]) else bif xc22_3_0 t0 t4 b1 then some (Ex.exit (nat_lit 0), [AV.rf (nat_lit 1) [Kd.int IntKind.i64, Kd.int IntKind.u8, Kd.int IntKind.u8, Kd.int IntKind.i64, Kd.str]], [Blk.dead, Blk.row [Kd.int IntKind.i64, Kd.int IntKind.u8, Kd.int IntKind.u8, Kd.int IntKind.i64, Kd.str] b1]) else none := by
  have h : roundV (cfg Try.prog tab 100000 (gk k21 30) rest 22 0 Try.f22.ntmps) (loopAt Try.f22 3) [0, 3, 4] [0, 1] [3] [0, 1] [AV.sl Tk.imm [Kd.int IntKind.i64, Kd.int IntKind.u8, Kd.int IntKind.u8, Kd.int IntKind.i64, Kd.str] t0, AV.rf (nat_lit 1) [Kd.int IntKind.i64, Kd.int IntKind.u8, Kd.int IntKind.u8, Kd.int IntKind.i64, Kd.str], AV.int IntKind.i64 t4] [Blk.dead, Blk.row [Kd.int IntKind.i64, Kd.int IntKind.u8, Kd.int IntKind.u8, Kd.int IntKind.i64, Kd.str] b1] = bif decide (t4 < (↑t0.length : Int)) then bif decide ((0 : Int) ≤ t4) && decide (t4 < (↑t0.length : Int)) then bif decide ((0 : Int) ≤ t4) && decide (t4 < (↑t0.length : Int)) then bif bif decide ((b1.length + (1 : Nat)) * (40 : Nat) ≤ (140737488355328 : Nat)) then decide (b1.length + (1 : Nat) ≤ (9223372036854775807 : Nat)) else false then some (Ex.norm, [AV.sl Tk.imm [Kd.int IntKind.i64, Kd.int IntKind.u8, Kd.int IntKind.u8, Kd.int IntKind.i64, Kd.str] t0, AV.rf (nat_lit 1) [Kd.int IntKind.i64, Kd.int IntKind.u8, Kd.int IntKind.u8, Kd.int IntKind.i64, Kd.str], AV.int IntKind.i64 (IntKind.i64.wrap (t4 + (1 : Int)))], [Blk.dead, Blk.row [Kd.int IntKind.i64, Kd.int IntKind.u8, Kd.int IntKind.u8, Kd.int IntKind.i64, Kd.str] (b1 ++ [[AV.int IntKind.i64 (intOf ((t0.getD t4.toNat []).getD (0 : Nat) AV.junk)), AV.int IntKind.u8 (intOf ((t0.getD t4.toNat []).getD ((0 : Nat) + (1 : Nat)) AV.junk)), AV.int IntKind.u8 (intOf ((t0.getD t4.toNat []).getD ((0 : Nat) + (1 : Nat) + (1 : Nat)) AV.junk)), AV.int IntKind.i64 (intOf ((t0.getD t4.toNat []).getD ((0 : Nat) + (1 : Nat) + (1 : Nat) + (1 : Nat)) AV.junk)), AV.str (strOf ((t0.getD t4.toNat []).getD ((0 : Nat) + (1 : Nat) + (1 : Nat) + (1 : Nat) + (1 : Nat)) AV.junk))]])]) else none else none else none else some (Ex.exit (nat_lit 0), [AV.rf (nat_lit 1) [Kd.int IntKind.i64, Kd.int IntKind.u8, Kd.int IntKind.u8, Kd.int IntKind.i64, Kd.str]], [Blk.dead, Blk.row [Kd.int IntKind.i64, Kd.int IntKind.u8, Kd.int IntKind.u8, Kd.int IntKind.i64, Kd.str] b1]) := by kernel_rfl
  rw [h]
  clear h
  unfold go22_3 nx22_3_1 nx22_3_2 xc22_3_0
  generalize (decide ((b1.length + (1 : Nat)) * (40 : Nat) ≤ (140737488355328 : Nat))) = c0
  generalize (decide (b1.length + (1 : Nat) ≤ (9223372036854775807 : Nat))) = c1
  generalize (decide ((0 : Int) ≤ t4) && decide (t4 < (↑t0.length : Int))) = c2
  generalize (decide (t4 < (↑t0.length : Int))) = c3
  cases c3
  · skip
    rfl
  · skip
    cases c2
    · skip
      rfl
    · skip
      cases c0
      · skip
        rfl
      · skip
        cases c1
        · skip
          rfl
        · skip
          rfl
abbrev pl22_3 : Type := (List (List AV))
abbrev sl22_3 : Type := Int × (List (List AV))
noncomputable def vt22_3 (a : pl22_3 × sl22_3) : List AV := [AV.sl Tk.imm [Kd.int IntKind.i64, Kd.int IntKind.u8, Kd.int IntKind.u8, Kd.int IntKind.i64, Kd.str] a.1, AV.rf (nat_lit 1) [Kd.int IntKind.i64, Kd.int IntKind.u8, Kd.int IntKind.u8, Kd.int IntKind.i64, Kd.str], AV.int IntKind.i64 a.2.1]
noncomputable def vc22_3 (a : pl22_3 × sl22_3) : List Blk := [Blk.dead, Blk.row [Kd.int IntKind.i64, Kd.int IntKind.u8, Kd.int IntKind.u8, Kd.int IntKind.i64, Kd.str] a.2.2]
noncomputable def de22_3 (vt : List AV) (vc : List Blk) : Option (pl22_3 × sl22_3) :=
  match vt with
  | [qa0, qa1, qa2] => (match vc with
  | [qb0, qb1] => (match qa0 with
  | AV.sl Tk.imm [Kd.int IntKind.i64, Kd.int IntKind.u8, Kd.int IntKind.u8, Kd.int IntKind.i64, Kd.str] t0 => (match qa1 with
  | AV.rf (1) [Kd.int IntKind.i64, Kd.int IntKind.u8, Kd.int IntKind.u8, Kd.int IntKind.i64, Kd.str] => (match qa2 with
  | AV.int IntKind.i64 t4 => (match qb0 with
  | Blk.dead => (match qb1 with
  | Blk.row [Kd.int IntKind.i64, Kd.int IntKind.u8, Kd.int IntKind.u8, Kd.int IntKind.i64, Kd.str] b1 => (some (t0, (t4, b1)))
  | _ => none)
  | _ => none)
  | _ => none)
  | _ => none)
  | _ => none)
  | _ => none)
  | _ => none
theorem de22_3_ok (vt : List AV) (vc : List Blk) (a : pl22_3 × sl22_3) (h : de22_3 vt vc = some a) : vt = vt22_3 a ∧ vc = vc22_3 a := by
  unfold de22_3 at h
  split at h
  rotate_left
  · cases h
  split at h
  rotate_left
  · cases h
  split at h
  rotate_left
  · cases h
  split at h
  rotate_left
  · cases h
  split at h
  rotate_left
  · cases h
  split at h
  rotate_left
  · cases h
  split at h
  rotate_left
  · cases h
  injection h with h
  subst h
  exact ⟨rfl, rfl⟩
noncomputable def g22_3 (p : pl22_3) (s : sl22_3) : Bool := go22_3 p s.1 s.2
noncomputable def n22_3 (p : pl22_3) (s : sl22_3) : sl22_3 := (nx22_3_1 p s.1 s.2, nx22_3_2 p s.1 s.2)
noncomputable def y22_3 (p : pl22_3) (s : sl22_3) : List (Bool × Out) := []
noncomputable def z22_3 (p : pl22_3) (s : sl22_3) : Bool := xc22_3_0 p s.1 s.2
noncomputable def d22_3 (p : pl22_3) (s : sl22_3) : Out := (Ex.exit (nat_lit 0), [AV.rf (nat_lit 1) [Kd.int IntKind.i64, Kd.int IntKind.u8, Kd.int IntKind.u8, Kd.int IntKind.i64, Kd.str]], [Blk.dead, Blk.row [Kd.int IntKind.i64, Kd.int IntKind.u8, Kd.int IntKind.u8, Kd.int IntKind.i64, Kd.str] s.2])
noncomputable def ls22_3 : St → Option (Bool × List (Bool × Ex × St) × Ex × St) := lspOf [0, 3, 4] [0, 1] [3] [0, 1] Try.f22.ntmps (0 + tab.nid 22) de22_3 (spI g22_3 n22_3 y22_3 z22_3 d22_3)
theorem lo22_3 (rest : Lsp) : LoopOK1 (cfg Try.prog tab 100000 (gk k21 30) (selL 3 ls22_3 rest) 22 0 Try.f22.ntmps) (loopAt Try.f22 3) := LoopOK1.iter (i := 3) (by kernel_rfl) [0, 3, 4] [0, 1] [3] [0, 1] vt22_3 vc22_3 de22_3 g22_3 n22_3 y22_3 z22_3 d22_3 (fun _ => rfl) de22_3_ok (fun p s => rd22_3 (selL 3 ls22_3 rest) p (s.1) (s.2)) (fun _ _ => rfl)
noncomputable def lsp22 : Lsp := (selL 3 ls22_3 noLsp)
theorem loops22 : ∀ c, Try.f22.body = some c → LoopsOK (cfg Try.prog tab 100000 (gk k21 30) lsp22 22 0 Try.f22.ntmps) c := loops_of [3] (by kernel_rfl) (by kernel_rfl) (fun i hi => by
  simp only [List.mem_cons, List.not_mem_nil, or_false] at hi
  subst hi
  · exact lo22_3 noLsp)
noncomputable def vev22_0 (es : List (List AV)) : List (List AV) := (finL (g22_3 es) (n22_3 es) ((0 : Int), [])).snd
noncomputable def vev22_1 (es : List (List AV)) : Bool := bif (spI g22_3 n22_3 y22_3 z22_3 d22_3 (es, (0 : Int), [])).fst then true else false
theorem ev22 (es : List (List AV)) : evFin (cfg Try.prog tab 100000 (gk k21 30) lsp22 22 ([] : List Blk).length Try.f22.ntmps) ([] : List Blk).length Try.f22.resultTypes.toList Try.f22 [.sl .imm [.int .i64, .int .u8, .int .u8, .int .i64, .str] es] [] = bif vev22_1 es then some (true, AV.sl Tk.imm [Kd.int IntKind.i64, Kd.int IntKind.u8, Kd.int IntKind.u8, Kd.int IntKind.i64, Kd.str] (vev22_0 es), []) else none := by
  have h : evFin (cfg Try.prog tab 100000 (gk k21 30) lsp22 22 ([] : List Blk).length Try.f22.ntmps) ([] : List Blk).length Try.f22.resultTypes.toList Try.f22 [.sl .imm [.int .i64, .int .u8, .int .u8, .int .i64, .str] es] [] = bif (spI g22_3 n22_3 y22_3 z22_3 d22_3 (es, (0 : Int), [])).fst then some (true, AV.sl Tk.imm [Kd.int IntKind.i64, Kd.int IntKind.u8, Kd.int IntKind.u8, Kd.int IntKind.i64, Kd.str] (finL (g22_3 es) (n22_3 es) ((0 : Int), [])).snd, []) else none := by kernel_rfl
  rw [h]
  clear h
  unfold vev22_0 vev22_1
  generalize ((spI g22_3 n22_3 y22_3 z22_3 d22_3 (es, (0 : Int), [])).fst) = c0
  cases c0
  · skip
    rfl
  · skip
    rfl
-- spec vev22_1 es ;; (true, AV.sl Tk.imm [Kd.int IntKind.i64, Kd.int IntKind.u8, Kd.int IntKind.u8, Kd.int IntKind.i64, Kd.str] (vev22_0 es), [])
noncomputable def sp22 : List AV → List Blk → Option (Bool × AV × List Blk)
  | [.sl .imm [.int .i64, .int .u8, .int .u8, .int .i64, .str] es], [] => spW (vev22_1 es) (some ((true, AV.sl Tk.imm [Kd.int IntKind.i64, Kd.int IntKind.u8, Kd.int IntKind.u8, Kd.int IntKind.i64, Kd.str] (vev22_0 es), [])))
  | _, _ => none
noncomputable def k22 : Gam := fun f T C => match Nat.beq f 22 with
  | true => (sp22 T C).or (k21 f T C)
  | false => k21 f T C
theorem k22_ok : GamOK Try.prog k22 := by
  intro f T C r outs h
  unfold k22 at h
  cases hf : Nat.beq f 22 with
  | false => rw [hf] at h; exact k21_ok f T C r outs h
  | true =>
    have hf' := Nat.eq_of_beq_eq_true hf
    subst hf'
    rw [hf] at h
    dsimp only at h
    cases hs : sp22 T C with
    | none => rw [hs] at h; exact k21_ok _ T C r outs h
    | some x =>
      rw [hs] at h
      have hx : x = (true, r, outs) := by simpa using h
      subst hx
      unfold sp22 at hs
      split at hs
      · rename_i es
        obtain ⟨hb, rfl, rfl⟩ := spT_inv hs
        have he := ev22 es
        rw [hb, cond_true] at he
        obtain ⟨r0, o0, h0, he⟩ := evFin_inv he
        obtain ⟨h1, h2⟩ := fn_ok mixed plain (gk_ok k21_ok 30) Try.func22 loops22 h0
        exact ⟨h1, h2.fin he⟩
      · cases hs
theorem aw18 : gk k0 30 18 [] [] = some (true, .bool true, []) := by kernel_rfl
noncomputable def k18 : Gam := fun f T C => match Nat.beq f 18, T, C with
  | true, [], [] => some (true, .bool true, [])
  | _, T, C => k22 f T C
theorem k18_ok : GamOK Try.prog k18 := by
  intro f T C r outs h
  unfold k18 at h
  split at h
  · rename_i hf
    have hf' := Nat.eq_of_beq_eq_true hf
    subst hf'
    have hx : (true, AV.bool true, ([] : List Blk)) = (true, r, outs) := by simpa using h
    injection hx with _ hx
    injection hx with h1 h2
    subst h1 h2
    exact gk_ok k0_ok 30 18 [] [] _ _ aw18
  · exact k22_ok _ _ _ r outs h
end Go.Proofs.Gv
