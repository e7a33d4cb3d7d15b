import Derived.Test.YthnbpgiohimkoaaFn32
import Derived.Test.YthnbpgiohimkoaaFn37
import Derived.Test.YthnbpgiohimkoaaFn27
import Derived.KernelRfl
import Derived.Test.YthnbpgiohimkoaaFn30
import Derived.Test.YthnbpgiohimkoaaFn31
import Derived.Test.YthnbpgiohimkoaaFn46
set_option linter.unusedVariables false
namespace Go.Proofs.Gv
open Go.Proofs
noncomputable def go9_29 (c d : LL) (e : Int) (f : LL) (g : Int) (h : LL) (i j k l : Int) (m : LL) (o p : Int) (a b : LL) : Bool := bif decide (j < i) then bif decide (0 ≤ i) && decide (i < (↑h.length : Int)) then bif decide (0 ≤ j) && decide (j < (↑h.length : Int)) then bif decide (0 ≤ i) && decide (i < (↑f.length : Int)) then bif decide (0 ≤ j) && decide (j < (↑f.length : Int)) then bif !vev41_0 (intOf ((h.getD i.toNat []).getD (0 + 1) AV.junk)) (intOf ((h.getD i.toNat []).getD (0 + 1 + 1) AV.junk)) (intOf ((h.getD i.toNat []).getD (0 + 1 + 1 + 1) AV.junk)) (intOf ((h.getD i.toNat []).getD (0 + 1 + 1 + 1 + 1) AV.junk)) (intOf ((h.getD j.toNat []).getD (0 + 1) AV.junk)) (intOf ((h.getD j.toNat []).getD (0 + 1 + 1) AV.junk)) (intOf ((h.getD j.toNat []).getD (0 + 1 + 1 + 1) AV.junk)) (intOf ((h.getD j.toNat []).getD (0 + 1 + 1 + 1 + 1) AV.junk)) (intOf ((f.getD i.toNat []).getD (0 + 1 + 1 + 1 + 1) AV.junk)) (intOf ((f.getD j.toNat []).getD (0 + 1 + 1 + 1 + 1) AV.junk)) e then false else true else false else false else false else false else false
noncomputable def nx9_29_7 (c d : LL) (e : Int) (f : LL) (g : Int) (h : LL) (i j k l : Int) (m : LL) (o p : Int) (a b : LL) : Int := IntKind.i64.wrap (j + 1)
noncomputable def xc9_29_0 (c d : LL) (e : Int) (f : LL) (g : Int) (h : LL) (i j k l : Int) (m : LL) (o p : Int) (a b : LL) : Bool := bif decide (j < i) then bif decide (0 ≤ i) && decide (i < (↑h.length : Int)) then bif decide (0 ≤ j) && decide (j < (↑h.length : Int)) then bif decide (0 ≤ i) && decide (i < (↑f.length : Int)) then bif decide (0 ≤ j) && decide (j < (↑f.length : Int)) then !vev41_0 (intOf ((h.getD i.toNat []).getD (0 + 1) AV.junk)) (intOf ((h.getD i.toNat []).getD (0 + 1 + 1) AV.junk)) (intOf ((h.getD i.toNat []).getD (0 + 1 + 1 + 1) AV.junk)) (intOf ((h.getD i.toNat []).getD (0 + 1 + 1 + 1 + 1) AV.junk)) (intOf ((h.getD j.toNat []).getD (0 + 1) AV.junk)) (intOf ((h.getD j.toNat []).getD (0 + 1 + 1) AV.junk)) (intOf ((h.getD j.toNat []).getD (0 + 1 + 1 + 1) AV.junk)) (intOf ((h.getD j.toNat []).getD (0 + 1 + 1 + 1 + 1) AV.junk)) (intOf ((f.getD i.toNat []).getD (0 + 1 + 1 + 1 + 1) AV.junk)) (intOf ((f.getD j.toNat []).getD (0 + 1 + 1 + 1 + 1) AV.junk)) e else false else false else false else false else false
noncomputable def xc9_29_1 (c d : LL) (e : Int) (f : LL) (g : Int) (h : LL) (i j k l : Int) (m : LL) (o p : Int) (a b : LL) : Bool := bif decide (j < i) then false else true
theorem rd9_29 (rest : Lsp) (c d : LL) (e : Int) (f : LL) (g : Int) (i : LL) (j k l m : Int) (o : LL) (p q : Int) (a b : LL) : rV k40 rest 9 0 Try.f9 29 [1, 2, 7, 8, 9, 10, 13, 14, 15] [0, 1, 2] [1, 2, 6, 7, 8, 9, 10, 13, 14] [0, 1, 2] [AV.sl Tk.imm [Kd.int IntKind.u8] c, AV.sl Tk.imm [Kd.int IntKind.u8, Kd.int IntKind.i64, Kd.int IntKind.i64, Kd.int IntKind.i64, Kd.int IntKind.i64] d, iA e, AV.hp 0 0, AV.sl Tk.imm kF f, iA g, AV.sl Tk.imm kF i, iA j, iA k] (bS l m o p q a b) = bif go9_29 c d e f g i j k l m o p q a b then some (Ex.norm, [AV.sl Tk.imm [Kd.int IntKind.u8] c, AV.sl Tk.imm [Kd.int IntKind.u8, Kd.int IntKind.i64, Kd.int IntKind.i64, Kd.int IntKind.i64, Kd.int IntKind.i64] d, iA e, AV.hp 0 0, AV.sl Tk.imm kF f, iA g, AV.sl Tk.imm kF i, iA j, iA (nx9_29_7 c d e f g i j k l m o p q a b)], (bS l m o p q a b)) else bif xc9_29_0 c d e f g i j k l m o p q a b then some (Ex.ret, [AV.sl Tk.imm [Kd.int IntKind.u8] c, AV.sl Tk.imm [Kd.int IntKind.u8, Kd.int IntKind.i64, Kd.int IntKind.i64, Kd.int IntKind.i64, Kd.int IntKind.i64] d, AV.bool false, iA e, AV.hp 0 0, AV.sl Tk.imm kF f, iA g, AV.sl Tk.imm kF i, iA j], (bS l m o p q a b)) else bif xc9_29_1 c d e f g i j k l m o p q a b then some (Ex.exit 5, [AV.sl Tk.imm [Kd.int IntKind.u8] c, AV.sl Tk.imm [Kd.int IntKind.u8, Kd.int IntKind.i64, Kd.int IntKind.i64, Kd.int IntKind.i64, Kd.int IntKind.i64] d, AV.junk, iA e, AV.hp 0 0, AV.sl Tk.imm kF f, iA g, AV.sl Tk.imm kF i, iA j], (bS l m o p q a b)) else none := by
 refine Eq.trans (b := bif decide (k < j) then bif decide (0 ≤ j) && decide (j < (↑i.length : Int)) then bif decide (0 ≤ k) && decide (k < (↑i.length : Int)) then bif decide (0 ≤ j) && decide (j < (↑f.length : Int)) then bif decide (0 ≤ k) && decide (k < (↑f.length : Int)) then bif !vev41_0 (intOf ((i.getD j.toNat []).getD (0 + 1) AV.junk)) (intOf ((i.getD j.toNat []).getD (0 + 1 + 1) AV.junk)) (intOf ((i.getD j.toNat []).getD (0 + 1 + 1 + 1) AV.junk)) (intOf ((i.getD j.toNat []).getD (0 + 1 + 1 + 1 + 1) AV.junk)) (intOf ((i.getD k.toNat []).getD (0 + 1) AV.junk)) (intOf ((i.getD k.toNat []).getD (0 + 1 + 1) AV.junk)) (intOf ((i.getD k.toNat []).getD (0 + 1 + 1 + 1) AV.junk)) (intOf ((i.getD k.toNat []).getD (0 + 1 + 1 + 1 + 1) AV.junk)) (intOf ((f.getD j.toNat []).getD (0 + 1 + 1 + 1 + 1) AV.junk)) (intOf ((f.getD k.toNat []).getD (0 + 1 + 1 + 1 + 1) AV.junk)) e then some (Ex.ret, [AV.sl Tk.imm [Kd.int IntKind.u8] c, AV.sl Tk.imm [Kd.int IntKind.u8, Kd.int IntKind.i64, Kd.int IntKind.i64, Kd.int IntKind.i64, Kd.int IntKind.i64] d, AV.bool false, iA e, AV.hp 0 0, AV.sl Tk.imm kF f, iA g, AV.sl Tk.imm kF i, iA j], (bS l m o p q a b)) else some (Ex.norm, [AV.sl Tk.imm [Kd.int IntKind.u8] c, AV.sl Tk.imm [Kd.int IntKind.u8, Kd.int IntKind.i64, Kd.int IntKind.i64, Kd.int IntKind.i64, Kd.int IntKind.i64] d, iA e, AV.hp 0 0, AV.sl Tk.imm kF f, iA g, AV.sl Tk.imm kF i, iA j, iA (IntKind.i64.wrap (k + 1))], (bS l m o p q a b)) else none else none else none else none else some (Ex.exit 5, [AV.sl Tk.imm [Kd.int IntKind.u8] c, AV.sl Tk.imm [Kd.int IntKind.u8, Kd.int IntKind.i64, Kd.int IntKind.i64, Kd.int IntKind.i64, Kd.int IntKind.i64] d, AV.junk, iA e, AV.hp 0 0, AV.sl Tk.imm kF f, iA g, AV.sl Tk.imm kF i, iA j], (bS l m o p q a b))) (by kernel_rfl) ?_
 unfold go9_29 nx9_29_7 xc9_29_0 xc9_29_1
 generalize (!vev41_0 _ _ _ _ _ _ _ _ _ _ _) = c0
 generalize (decide (0 ≤ k) && decide (k < (↑i.length : Int))) = c1
 generalize (decide (0 ≤ j) && decide (j < (↑i.length : Int))) = c2
 generalize (decide (0 ≤ j) && decide (j < (↑f.length : Int))) = c3
 generalize (decide (0 ≤ k) && decide (k < (↑f.length : Int))) = c4
 generalize (decide (k < j)) = c5
 cases c5; rfl; cases c2; rfl; cases c1; rfl; cases c3; rfl; cases c4; rfl; cases c0; rfl; rfl
abbrev pl9_29 : Type := LL × LL × Int × LL × Int × LL × Int × Int × Int × LL × Int × Int × LL × LL
abbrev sl9_29 : Type := Int
noncomputable def vt9_29 (a : pl9_29 × sl9_29) : List AV := [AV.sl Tk.imm [Kd.int IntKind.u8] a.1.1, AV.sl Tk.imm [Kd.int IntKind.u8, Kd.int IntKind.i64, Kd.int IntKind.i64, Kd.int IntKind.i64, Kd.int IntKind.i64] a.1.2.1, iA a.1.2.2.1, AV.hp 0 0, AV.sl Tk.imm kF a.1.2.2.2.1, iA a.1.2.2.2.2.1, AV.sl Tk.imm kF a.1.2.2.2.2.2.1, iA a.1.2.2.2.2.2.2.1, iA a.2]
noncomputable def vc9_29 (a : pl9_29 × sl9_29) : List Blk := (bS a.1.2.2.2.2.2.2.2.1 a.1.2.2.2.2.2.2.2.2.1 a.1.2.2.2.2.2.2.2.2.2.1 a.1.2.2.2.2.2.2.2.2.2.2.1 a.1.2.2.2.2.2.2.2.2.2.2.2.1 a.1.2.2.2.2.2.2.2.2.2.2.2.2.1 a.1.2.2.2.2.2.2.2.2.2.2.2.2.2)
noncomputable def de9_29 (vt : List AV) (vc : List Blk) : Option (pl9_29 × sl9_29) :=
 match vt with
 | [qa0, qa1, qa2, qa3, qa4, qa5, qa6, qa7, qa8] => (match vc with
 | [qb0, qb1, qb2] => (match qa0 with
 | .sl Tk.imm [Kd.int IntKind.u8] t1 => (match qa1 with
 | .sl Tk.imm [Kd.int IntKind.u8, .int .i64, .int .i64, .int .i64, .int .i64] t2 => (match qa2 with
 | .int .i64 t7 => (match qa3 with
 | AV.hp (0) (0) => (match qa4 with
 | .sl Tk.imm [.int .i64, .int .i64, .int .i64, .int .i64, .int .i64, .int .i64, .sl [.int .i64, .int .i64, .int .i64, .int .i64]] t9 => (match qa5 with
 | .int .i64 t10 => (match qa6 with
 | .sl Tk.imm [.int .i64, .int .i64, .int .i64, .int .i64, .int .i64, .int .i64, .sl [.int .i64, .int .i64, .int .i64, .int .i64]] t13 => (match qa7 with
 | .int .i64 t14 => (match qa8 with
 | .int .i64 t15 => (match qb0 with
 | .var [.int .i64 b0_0, .int .i64 b0_1, AV.rf (1) [.int .i64], AV.mp (2) [.int .i64, .int .i64, .int .i64, .int .i64, .int .i64, .int .i64, .sl [.int .i64, .int .i64, .int .i64, .int .i64]], .sl Tk.imm [.int .i64, .int .i64] b0_4, .int .i64 b0_5, .int .i64 b0_6] => (match qb1 with
 | .row [.int .i64] b1 => (match qb2 with
 | Blk.tbl [.int .i64, .int .i64, .int .i64, .int .i64, .int .i64, .int .i64, .sl [.int .i64, .int .i64, .int .i64, .int .i64]] b2 none => (some ((t1, t2, t7, t9, t10, t13, t14, b0_0, b0_1, b0_4, b0_5, b0_6, b1, b2), t15))
 | _ => none)
 | _ => none)
 | _ => none)
 | _ => none)
 | _ => none)
 | _ => none)
 | _ => none)
 | _ => none)
 | _ => none)
 | _ => none)
 | _ => none)
 | _ => none)
 | _ => none)
 | _ => none
theorem de9_29_ok (vt : List AV) (vc : List Blk) (a : pl9_29 × sl9_29) (h : de9_29 vt vc = some a) : vt = vt9_29 a ∧ vc = vc9_29 a := by
 unfold de9_29 at h
 iterate 14 (split at h; rotate_left; · cases h)
 injection h with h; subst h; exact ⟨rfl, rfl⟩
noncomputable def g9_29 (p : pl9_29) (s : sl9_29) : Bool := go9_29 p.1 p.2.1 p.2.2.1 p.2.2.2.1 p.2.2.2.2.1 p.2.2.2.2.2.1 p.2.2.2.2.2.2.1 s p.2.2.2.2.2.2.2.1 p.2.2.2.2.2.2.2.2.1 p.2.2.2.2.2.2.2.2.2.1 p.2.2.2.2.2.2.2.2.2.2.1 p.2.2.2.2.2.2.2.2.2.2.2.1 p.2.2.2.2.2.2.2.2.2.2.2.2.1 p.2.2.2.2.2.2.2.2.2.2.2.2.2
noncomputable def n9_29 (p : pl9_29) (s : sl9_29) : sl9_29 := nx9_29_7 p.1 p.2.1 p.2.2.1 p.2.2.2.1 p.2.2.2.2.1 p.2.2.2.2.2.1 p.2.2.2.2.2.2.1 s p.2.2.2.2.2.2.2.1 p.2.2.2.2.2.2.2.2.1 p.2.2.2.2.2.2.2.2.2.1 p.2.2.2.2.2.2.2.2.2.2.1 p.2.2.2.2.2.2.2.2.2.2.2.1 p.2.2.2.2.2.2.2.2.2.2.2.2.1 p.2.2.2.2.2.2.2.2.2.2.2.2.2
noncomputable def y9_29 (p : pl9_29) (s : sl9_29) : List (Bool × Out) := [(xc9_29_0 p.1 p.2.1 p.2.2.1 p.2.2.2.1 p.2.2.2.2.1 p.2.2.2.2.2.1 p.2.2.2.2.2.2.1 s p.2.2.2.2.2.2.2.1 p.2.2.2.2.2.2.2.2.1 p.2.2.2.2.2.2.2.2.2.1 p.2.2.2.2.2.2.2.2.2.2.1 p.2.2.2.2.2.2.2.2.2.2.2.1 p.2.2.2.2.2.2.2.2.2.2.2.2.1 p.2.2.2.2.2.2.2.2.2.2.2.2.2, (Ex.ret, [AV.sl Tk.imm [Kd.int IntKind.u8] p.1, AV.sl Tk.imm [Kd.int IntKind.u8, Kd.int IntKind.i64, Kd.int IntKind.i64, Kd.int IntKind.i64, Kd.int IntKind.i64] p.2.1, AV.bool false, iA p.2.2.1, AV.hp 0 0, AV.sl Tk.imm kF p.2.2.2.1, iA p.2.2.2.2.1, AV.sl Tk.imm kF p.2.2.2.2.2.1, iA p.2.2.2.2.2.2.1], (bS p.2.2.2.2.2.2.2.1 p.2.2.2.2.2.2.2.2.1 p.2.2.2.2.2.2.2.2.2.1 p.2.2.2.2.2.2.2.2.2.2.1 p.2.2.2.2.2.2.2.2.2.2.2.1 p.2.2.2.2.2.2.2.2.2.2.2.2.1 p.2.2.2.2.2.2.2.2.2.2.2.2.2)))]
noncomputable def z9_29 (p : pl9_29) (s : sl9_29) : Bool := xc9_29_1 p.1 p.2.1 p.2.2.1 p.2.2.2.1 p.2.2.2.2.1 p.2.2.2.2.2.1 p.2.2.2.2.2.2.1 s p.2.2.2.2.2.2.2.1 p.2.2.2.2.2.2.2.2.1 p.2.2.2.2.2.2.2.2.2.1 p.2.2.2.2.2.2.2.2.2.2.1 p.2.2.2.2.2.2.2.2.2.2.2.1 p.2.2.2.2.2.2.2.2.2.2.2.2.1 p.2.2.2.2.2.2.2.2.2.2.2.2.2
noncomputable def d9_29 (p : pl9_29) (s : sl9_29) : Out := (Ex.exit 5, [AV.sl Tk.imm [Kd.int IntKind.u8] p.1, AV.sl Tk.imm [Kd.int IntKind.u8, Kd.int IntKind.i64, Kd.int IntKind.i64, Kd.int IntKind.i64, Kd.int IntKind.i64] p.2.1, AV.junk, iA p.2.2.1, AV.hp 0 0, AV.sl Tk.imm kF p.2.2.2.1, iA p.2.2.2.2.1, AV.sl Tk.imm kF p.2.2.2.2.2.1, iA p.2.2.2.2.2.2.1], (bS p.2.2.2.2.2.2.2.1 p.2.2.2.2.2.2.2.2.1 p.2.2.2.2.2.2.2.2.2.1 p.2.2.2.2.2.2.2.2.2.2.1 p.2.2.2.2.2.2.2.2.2.2.2.1 p.2.2.2.2.2.2.2.2.2.2.2.2.1 p.2.2.2.2.2.2.2.2.2.2.2.2.2))
noncomputable def ls9_29 := lspOf [1, 2, 7, 8, 9, 10, 13, 14, 15] [0, 1, 2] [1, 2, 6, 7, 8, 9, 10, 13, 14] [0, 1, 2] Try.f9.ntmps (0 + tab.nid 9) de9_29 (spI g9_29 n9_29 y9_29 z9_29 d9_29)
theorem lo9_29 (rest : Lsp) : lO k40 (selL 29 ls9_29 rest) 9 0 Try.f9 29 := LoopOK1.iter (i := 29) (by kernel_rfl) [1, 2, 7, 8, 9, 10, 13, 14, 15] [0, 1, 2] [1, 2, 6, 7, 8, 9, 10, 13, 14] [0, 1, 2] vt9_29 vc9_29 de9_29 g9_29 n9_29 y9_29 z9_29 d9_29 (fun _ => rfl) de9_29_ok (fun p s => rd9_29 (selL 29 ls9_29 rest) (p.1) (p.2.1) (p.2.2.1) (p.2.2.2.1) (p.2.2.2.2.1) (p.2.2.2.2.2.1) (p.2.2.2.2.2.2.1) s (p.2.2.2.2.2.2.2.1) (p.2.2.2.2.2.2.2.2.1) (p.2.2.2.2.2.2.2.2.2.1) (p.2.2.2.2.2.2.2.2.2.2.1) (p.2.2.2.2.2.2.2.2.2.2.2.1) (p.2.2.2.2.2.2.2.2.2.2.2.2.1) (p.2.2.2.2.2.2.2.2.2.2.2.2.2)) (fun _ _ => rfl)
noncomputable def rn9_26_0 (c d : LL) (e : Int) (f : LL) (g : Int) (h : LL) (i j k : Int) (l : LL) (m o : Int) (a b : LL) : sl9_29 := finL (g9_29 (c, d, e, f, g, h, i, j, k, l, m, o, a, b)) (n9_29 (c, d, e, f, g, h, i, j, k, l, m, o, a, b)) 0
noncomputable def go9_26 (c d : LL) (e : Int) (f : LL) (g : Int) (h : LL) (i j k : Int) (l : LL) (m o : Int) (a b : LL) : Bool := bif decide (i < (↑h.length : Int)) then bif (spI g9_29 n9_29 y9_29 z9_29 d9_29 ((c, d, e, f, g, h, i, j, k, l, m, o, a, b), 0)).fst then bif xc9_29_0 c d e f g h i (rn9_26_0 c d e f g h i j k l m o a b) j k l m o a b then false else true else false else false
noncomputable def nx9_26_6 (c d : LL) (e : Int) (f : LL) (g : Int) (h : LL) (i j k : Int) (l : LL) (m o : Int) (a b : LL) : Int := IntKind.i64.wrap (i + 1)
noncomputable def xc9_26_0 (c d : LL) (e : Int) (f : LL) (g : Int) (h : LL) (i j k : Int) (l : LL) (m o : Int) (a b : LL) : Bool := bif decide (i < (↑h.length : Int)) then bif (spI g9_29 n9_29 y9_29 z9_29 d9_29 ((c, d, e, f, g, h, i, j, k, l, m, o, a, b), 0)).fst then xc9_29_0 c d e f g h i (rn9_26_0 c d e f g h i j k l m o a b) j k l m o a b else false else false
noncomputable def xc9_26_1 (c d : LL) (e : Int) (f : LL) (g : Int) (h : LL) (i j k : Int) (l : LL) (m o : Int) (a b : LL) : Bool := bif decide (i < (↑h.length : Int)) then false else true
theorem rd9_26 (rest : Lsp) (c d : LL) (e : Int) (f : LL) (g : Int) (i : LL) (j k l : Int) (m : LL) (o p : Int) (a b : LL) : rV k40 (selL 29 ls9_29 rest) 9 0 Try.f9 26 [1, 2, 7, 8, 9, 10, 13, 14] [0, 1, 2] [1, 2, 6, 7, 8, 9, 10] [0, 1, 2] [AV.sl Tk.imm [Kd.int IntKind.u8] c, AV.sl Tk.imm [Kd.int IntKind.u8, Kd.int IntKind.i64, Kd.int IntKind.i64, Kd.int IntKind.i64, Kd.int IntKind.i64] d, iA e, AV.hp 0 0, AV.sl Tk.imm kF f, iA g, AV.sl Tk.imm kF i, iA j] (bS k l m o p a b) = bif go9_26 c d e f g i j k l m o p a b then some (Ex.norm, [AV.sl Tk.imm [Kd.int IntKind.u8] c, AV.sl Tk.imm [Kd.int IntKind.u8, Kd.int IntKind.i64, Kd.int IntKind.i64, Kd.int IntKind.i64, Kd.int IntKind.i64] d, iA e, AV.hp 0 0, AV.sl Tk.imm kF f, iA g, AV.sl Tk.imm kF i, iA (nx9_26_6 c d e f g i j k l m o p a b)], (bS k l m o p a b)) else bif xc9_26_0 c d e f g i j k l m o p a b then some (Ex.ret, [AV.sl Tk.imm [Kd.int IntKind.u8] c, AV.sl Tk.imm [Kd.int IntKind.u8, Kd.int IntKind.i64, Kd.int IntKind.i64, Kd.int IntKind.i64, Kd.int IntKind.i64] d, AV.bool false, iA e, AV.hp 0 0, AV.sl Tk.imm kF f, iA g], (bS k l m o p a b)) else bif xc9_26_1 c d e f g i j k l m o p a b then some (Ex.exit 3, [AV.sl Tk.imm [Kd.int IntKind.u8] c, AV.sl Tk.imm [Kd.int IntKind.u8, Kd.int IntKind.i64, Kd.int IntKind.i64, Kd.int IntKind.i64, Kd.int IntKind.i64] d, AV.junk, iA e, AV.hp 0 0, AV.sl Tk.imm kF f, iA g], (bS k l m o p a b)) else none := by
 refine Eq.trans (b := bif decide (j < (↑i.length : Int)) then bif (spI g9_29 n9_29 y9_29 z9_29 d9_29 ((c, d, e, f, g, i, j, k, l, m, o, p, a, b), 0)).fst then bif xc9_29_0 c d e f g i j (rn9_26_0 c d e f g i j k l m o p a b) k l m o p a b then some (Ex.ret, [AV.sl Tk.imm [Kd.int IntKind.u8] c, AV.sl Tk.imm [Kd.int IntKind.u8, Kd.int IntKind.i64, Kd.int IntKind.i64, Kd.int IntKind.i64, Kd.int IntKind.i64] d, AV.bool false, iA e, AV.hp 0 0, AV.sl Tk.imm kF f, iA g], (bS k l m o p a b)) else some (Ex.norm, [AV.sl Tk.imm [Kd.int IntKind.u8] c, AV.sl Tk.imm [Kd.int IntKind.u8, Kd.int IntKind.i64, Kd.int IntKind.i64, Kd.int IntKind.i64, Kd.int IntKind.i64] d, iA e, AV.hp 0 0, AV.sl Tk.imm kF f, iA g, AV.sl Tk.imm kF i, iA (IntKind.i64.wrap (j + 1))], (bS k l m o p a b)) else none else some (Ex.exit 3, [AV.sl Tk.imm [Kd.int IntKind.u8] c, AV.sl Tk.imm [Kd.int IntKind.u8, Kd.int IntKind.i64, Kd.int IntKind.i64, Kd.int IntKind.i64, Kd.int IntKind.i64] d, AV.junk, iA e, AV.hp 0 0, AV.sl Tk.imm kF f, iA g], (bS k l m o p a b))) (by kernel_rfl) ?_
 unfold go9_26 nx9_26_6 xc9_26_0 xc9_26_1
 generalize (spI g9_29 _ _ _ _ _).fst = c0
 generalize (xc9_29_0 _ _ _ _ _ _ _ _ _ _ _ _ _ _ _) = c1
 generalize (decide (j < (↑i.length : Int))) = c2
 cases c2; rfl; cases c0; rfl; cases c1; rfl; rfl
abbrev pl9_26 : Type := LL × LL × Int × LL × Int × LL × Int × Int × LL × Int × Int × LL × LL
abbrev sl9_26 : Type := Int
noncomputable def vt9_26 (a : pl9_26 × sl9_26) : List AV := [AV.sl Tk.imm [Kd.int IntKind.u8] a.1.1, AV.sl Tk.imm [Kd.int IntKind.u8, Kd.int IntKind.i64, Kd.int IntKind.i64, Kd.int IntKind.i64, Kd.int IntKind.i64] a.1.2.1, iA a.1.2.2.1, AV.hp 0 0, AV.sl Tk.imm kF a.1.2.2.2.1, iA a.1.2.2.2.2.1, AV.sl Tk.imm kF a.1.2.2.2.2.2.1, iA a.2]
noncomputable def vc9_26 (a : pl9_26 × sl9_26) : List Blk := (bS a.1.2.2.2.2.2.2.1 a.1.2.2.2.2.2.2.2.1 a.1.2.2.2.2.2.2.2.2.1 a.1.2.2.2.2.2.2.2.2.2.1 a.1.2.2.2.2.2.2.2.2.2.2.1 a.1.2.2.2.2.2.2.2.2.2.2.2.1 a.1.2.2.2.2.2.2.2.2.2.2.2.2)
noncomputable def de9_26 (vt : List AV) (vc : List Blk) : Option (pl9_26 × sl9_26) :=
 match vt with
 | [qa0, qa1, qa2, qa3, qa4, qa5, qa6, qa7] => (match vc with
 | [qb0, qb1, qb2] => (match qa0 with
 | .sl Tk.imm [Kd.int IntKind.u8] t1 => (match qa1 with
 | .sl Tk.imm [Kd.int IntKind.u8, .int .i64, .int .i64, .int .i64, .int .i64] t2 => (match qa2 with
 | .int .i64 t7 => (match qa3 with
 | AV.hp (0) (0) => (match qa4 with
 | .sl Tk.imm [.int .i64, .int .i64, .int .i64, .int .i64, .int .i64, .int .i64, .sl [.int .i64, .int .i64, .int .i64, .int .i64]] t9 => (match qa5 with
 | .int .i64 t10 => (match qa6 with
 | .sl Tk.imm [.int .i64, .int .i64, .int .i64, .int .i64, .int .i64, .int .i64, .sl [.int .i64, .int .i64, .int .i64, .int .i64]] t13 => (match qa7 with
 | .int .i64 t14 => (match qb0 with
 | .var [.int .i64 b0_0, .int .i64 b0_1, AV.rf (1) [.int .i64], AV.mp (2) [.int .i64, .int .i64, .int .i64, .int .i64, .int .i64, .int .i64, .sl [.int .i64, .int .i64, .int .i64, .int .i64]], .sl Tk.imm [.int .i64, .int .i64] b0_4, .int .i64 b0_5, .int .i64 b0_6] => (match qb1 with
 | .row [.int .i64] b1 => (match qb2 with
 | Blk.tbl [.int .i64, .int .i64, .int .i64, .int .i64, .int .i64, .int .i64, .sl [.int .i64, .int .i64, .int .i64, .int .i64]] b2 none => (some ((t1, t2, t7, t9, t10, t13, b0_0, b0_1, b0_4, b0_5, b0_6, b1, b2), t14))
 | _ => none)
 | _ => none)
 | _ => none)
 | _ => none)
 | _ => none)
 | _ => none)
 | _ => none)
 | _ => none)
 | _ => none)
 | _ => none)
 | _ => none)
 | _ => none)
 | _ => none
theorem de9_26_ok (vt : List AV) (vc : List Blk) (a : pl9_26 × sl9_26) (h : de9_26 vt vc = some a) : vt = vt9_26 a ∧ vc = vc9_26 a := by
 unfold de9_26 at h
 iterate 13 (split at h; rotate_left; · cases h)
 injection h with h; subst h; exact ⟨rfl, rfl⟩
noncomputable def g9_26 (p : pl9_26) (s : sl9_26) : Bool := go9_26 p.1 p.2.1 p.2.2.1 p.2.2.2.1 p.2.2.2.2.1 p.2.2.2.2.2.1 s p.2.2.2.2.2.2.1 p.2.2.2.2.2.2.2.1 p.2.2.2.2.2.2.2.2.1 p.2.2.2.2.2.2.2.2.2.1 p.2.2.2.2.2.2.2.2.2.2.1 p.2.2.2.2.2.2.2.2.2.2.2.1 p.2.2.2.2.2.2.2.2.2.2.2.2
noncomputable def n9_26 (p : pl9_26) (s : sl9_26) : sl9_26 := nx9_26_6 p.1 p.2.1 p.2.2.1 p.2.2.2.1 p.2.2.2.2.1 p.2.2.2.2.2.1 s p.2.2.2.2.2.2.1 p.2.2.2.2.2.2.2.1 p.2.2.2.2.2.2.2.2.1 p.2.2.2.2.2.2.2.2.2.1 p.2.2.2.2.2.2.2.2.2.2.1 p.2.2.2.2.2.2.2.2.2.2.2.1 p.2.2.2.2.2.2.2.2.2.2.2.2
noncomputable def y9_26 (p : pl9_26) (s : sl9_26) : List (Bool × Out) := [(xc9_26_0 p.1 p.2.1 p.2.2.1 p.2.2.2.1 p.2.2.2.2.1 p.2.2.2.2.2.1 s p.2.2.2.2.2.2.1 p.2.2.2.2.2.2.2.1 p.2.2.2.2.2.2.2.2.1 p.2.2.2.2.2.2.2.2.2.1 p.2.2.2.2.2.2.2.2.2.2.1 p.2.2.2.2.2.2.2.2.2.2.2.1 p.2.2.2.2.2.2.2.2.2.2.2.2, (Ex.ret, [AV.sl Tk.imm [Kd.int IntKind.u8] p.1, AV.sl Tk.imm [Kd.int IntKind.u8, Kd.int IntKind.i64, Kd.int IntKind.i64, Kd.int IntKind.i64, Kd.int IntKind.i64] p.2.1, AV.bool false, iA p.2.2.1, AV.hp 0 0, AV.sl Tk.imm kF p.2.2.2.1, iA p.2.2.2.2.1], (bS p.2.2.2.2.2.2.1 p.2.2.2.2.2.2.2.1 p.2.2.2.2.2.2.2.2.1 p.2.2.2.2.2.2.2.2.2.1 p.2.2.2.2.2.2.2.2.2.2.1 p.2.2.2.2.2.2.2.2.2.2.2.1 p.2.2.2.2.2.2.2.2.2.2.2.2)))]
noncomputable def z9_26 (p : pl9_26) (s : sl9_26) : Bool := xc9_26_1 p.1 p.2.1 p.2.2.1 p.2.2.2.1 p.2.2.2.2.1 p.2.2.2.2.2.1 s p.2.2.2.2.2.2.1 p.2.2.2.2.2.2.2.1 p.2.2.2.2.2.2.2.2.1 p.2.2.2.2.2.2.2.2.2.1 p.2.2.2.2.2.2.2.2.2.2.1 p.2.2.2.2.2.2.2.2.2.2.2.1 p.2.2.2.2.2.2.2.2.2.2.2.2
noncomputable def d9_26 (p : pl9_26) (s : sl9_26) : Out := (Ex.exit 3, [AV.sl Tk.imm [Kd.int IntKind.u8] p.1, AV.sl Tk.imm [Kd.int IntKind.u8, Kd.int IntKind.i64, Kd.int IntKind.i64, Kd.int IntKind.i64, Kd.int IntKind.i64] p.2.1, AV.junk, iA p.2.2.1, AV.hp 0 0, AV.sl Tk.imm kF p.2.2.2.1, iA p.2.2.2.2.1], (bS p.2.2.2.2.2.2.1 p.2.2.2.2.2.2.2.1 p.2.2.2.2.2.2.2.2.1 p.2.2.2.2.2.2.2.2.2.1 p.2.2.2.2.2.2.2.2.2.2.1 p.2.2.2.2.2.2.2.2.2.2.2.1 p.2.2.2.2.2.2.2.2.2.2.2.2))
noncomputable def ls9_26 := lspOf [1, 2, 7, 8, 9, 10, 13, 14] [0, 1, 2] [1, 2, 6, 7, 8, 9, 10] [0, 1, 2] Try.f9.ntmps (0 + tab.nid 9) de9_26 (spI g9_26 n9_26 y9_26 z9_26 d9_26)
theorem lo9_26 (rest : Lsp) : lO k40 (selL 29 ls9_29 (selL 26 ls9_26 rest)) 9 0 Try.f9 26 := LoopOK1.iter (i := 26) (by kernel_rfl) [1, 2, 7, 8, 9, 10, 13, 14] [0, 1, 2] [1, 2, 6, 7, 8, 9, 10] [0, 1, 2] vt9_26 vc9_26 de9_26 g9_26 n9_26 y9_26 z9_26 d9_26 (fun _ => rfl) de9_26_ok (fun p s => rd9_26 (selL 26 ls9_26 rest) (p.1) (p.2.1) (p.2.2.1) (p.2.2.2.1) (p.2.2.2.2.1) (p.2.2.2.2.2.1) s (p.2.2.2.2.2.2.1) (p.2.2.2.2.2.2.2.1) (p.2.2.2.2.2.2.2.2.1) (p.2.2.2.2.2.2.2.2.2.1) (p.2.2.2.2.2.2.2.2.2.2.1) (p.2.2.2.2.2.2.2.2.2.2.2.1) (p.2.2.2.2.2.2.2.2.2.2.2.2)) (fun _ _ => rfl)
noncomputable def rn9_9_0 (c d : LL) (e : Int) (f : LL) (g h i : Int) (j : LL) (k l : Int) (a b : LL) : Int := IntKind.u64.wrap (↑c.length : Int)
noncomputable def rn9_9_1 (c d : LL) (e : Int) (f : LL) (g h i : Int) (j : LL) (k l : Int) (a b : LL) : Int := IntKind.i64.wrap ((IntKind.u64.wrap (intOf ((d.getD g.toNat []).getD (0 + 1) AV.junk))).tmod (rn9_9_0 c d e f g h i j k l a b))
noncomputable def rn9_9_2 (c d : LL) (e : Int) (f : LL) (g h i : Int) (j : LL) (k l : Int) (a b : LL) : Int := IntKind.i64.wrap (3 + IntKind.i64.wrap (2 * IntKind.i64.wrap ((IntKind.u64.wrap (intOf ((d.getD g.toNat []).getD (0 + 1 + 1) AV.junk))).tmod 50)))
noncomputable def rn9_9_3 (c d : LL) (e : Int) (f : LL) (g h i : Int) (j : LL) (k l : Int) (a b : LL) : Int := IntKind.i64.wrap ((IntKind.u64.wrap (intOf ((d.getD g.toNat []).getD (0 + 1 + 1 + 1) AV.junk))).tmod 8)
noncomputable def rn9_9_4 (c d : LL) (e : Int) (f : LL) (g h i : Int) (j : LL) (k l : Int) (a b : LL) : Int := IntKind.i64.wrap (1 + IntKind.i64.wrap ((IntKind.u64.wrap (intOf ((d.getD g.toNat []).getD (0 + 1 + 1 + 1 + 1) AV.junk))).tmod 100))
noncomputable def rn9_9_5 (c d : LL) (e : Int) (f : LL) (g h i : Int) (j : LL) (k l : Int) (a b : LL) : LL := vev15_2 h i k l a b j (rn9_9_1 c d e f g h i j k l a b) (rn9_9_2 c d e f g h i j k l a b) (rn9_9_3 c d e f g h i j k l a b) (rn9_9_4 c d e f g h i j k l a b)
noncomputable def rn9_9_6 (c d : LL) (e : Int) (f : LL) (g h i : Int) (j : LL) (k l : Int) (a b : LL) : LL := vev15_1 h i k l a b j (rn9_9_1 c d e f g h i j k l a b) (rn9_9_2 c d e f g h i j k l a b) (rn9_9_3 c d e f g h i j k l a b) (rn9_9_4 c d e f g h i j k l a b)
noncomputable def rn9_9_7 (c d : LL) (e : Int) (f : LL) (g h i : Int) (j : LL) (k l : Int) (a b : LL) : LL := vev35_0 h i k l a (rn9_9_5 c d e f g h i j k l a b) (rn9_9_6 c d e f g h i j k l a b)
noncomputable def rn9_9_8 (c d : LL) (e : Int) (f : LL) (g h i : Int) (j : LL) (k l : Int) (a b : LL) : sl9_26 := finL (g9_26 (c, d, e, f, g, rn9_9_7 c d e f g h i j k l a b, h, i, rn9_9_6 c d e f g h i j k l a b, k, l, a, rn9_9_5 c d e f g h i j k l a b)) (n9_26 (c, d, e, f, g, rn9_9_7 c d e f g h i j k l a b, h, i, rn9_9_6 c d e f g h i j k l a b, k, l, a, rn9_9_5 c d e f g h i j k l a b)) 1
noncomputable def rn9_9_9 (c d : LL) (e : Int) (f : LL) (g h i : Int) (j : LL) (k l : Int) (a b : LL) : LL := vev29_2 h i k l a b j (rn9_9_1 c d e f g h i j k l a b) (rn9_9_2 c d e f g h i j k l a b)
noncomputable def rn9_9_10 (c d : LL) (e : Int) (f : LL) (g h i : Int) (j : LL) (k l : Int) (a b : LL) : LL := vev29_1 h i k l a b j (rn9_9_1 c d e f g h i j k l a b) (rn9_9_2 c d e f g h i j k l a b)
noncomputable def rn9_9_11 (c d : LL) (e : Int) (f : LL) (g h i : Int) (j : LL) (k l : Int) (a b : LL) : LL := vev35_0 h i k l a (rn9_9_9 c d e f g h i j k l a b) (rn9_9_10 c d e f g h i j k l a b)
noncomputable def rn9_9_12 (c d : LL) (e : Int) (f : LL) (g h i : Int) (j : LL) (k l : Int) (a b : LL) : sl9_26 := finL (g9_26 (c, d, e, f, g, rn9_9_11 c d e f g h i j k l a b, h, i, rn9_9_10 c d e f g h i j k l a b, k, l, a, rn9_9_9 c d e f g h i j k l a b)) (n9_26 (c, d, e, f, g, rn9_9_11 c d e f g h i j k l a b, h, i, rn9_9_10 c d e f g h i j k l a b, k, l, a, rn9_9_9 c d e f g h i j k l a b)) 1
noncomputable def rn9_9_13 (c d : LL) (e : Int) (f : LL) (g h i : Int) (j : LL) (k l : Int) (a b : LL) : LL := vev35_0 h i k l a b j
noncomputable def rn9_9_14 (c d : LL) (e : Int) (f : LL) (g h i : Int) (j : LL) (k l : Int) (a b : LL) : sl9_26 := finL (g9_26 (c, d, e, rn9_9_13 c d e f g h i j k l a b, g, rn9_9_13 c d e f g h i j k l a b, h, i, j, k, l, a, b)) (n9_26 (c, d, e, rn9_9_13 c d e f g h i j k l a b, g, rn9_9_13 c d e f g h i j k l a b, h, i, j, k, l, a, b)) 1
noncomputable def rn9_9_15 (c d : LL) (e : Int) (f : LL) (g h i : Int) (j : LL) (k l : Int) (a b : LL) : Int := vev31_6 h i k l a b j
noncomputable def rn9_9_16 (c d : LL) (e : Int) (f : LL) (g h i : Int) (j : LL) (k l : Int) (a b : LL) : Int := vev31_7 h i k l a b j
noncomputable def rn9_9_17 (c d : LL) (e : Int) (f : LL) (g h i : Int) (j : LL) (k l : Int) (a b : LL) : LL := vev31_8 h i k l a b j
noncomputable def rn9_9_18 (c d : LL) (e : Int) (f : LL) (g h i : Int) (j : LL) (k l : Int) (a b : LL) : LL := vev31_5 h i k l a b j
noncomputable def rn9_9_19 (c d : LL) (e : Int) (f : LL) (g h i : Int) (j : LL) (k l : Int) (a b : LL) : LL := vev35_0 h i (rn9_9_15 c d e f g h i j k l a b) (rn9_9_16 c d e f g h i j k l a b) a (rn9_9_17 c d e f g h i j k l a b) (rn9_9_18 c d e f g h i j k l a b)
noncomputable def rn9_9_20 (c d : LL) (e : Int) (f : LL) (g h i : Int) (j : LL) (k l : Int) (a b : LL) : sl9_26 := finL (g9_26 (c, d, e, f, g, rn9_9_19 c d e f g h i j k l a b, h, i, rn9_9_18 c d e f g h i j k l a b, rn9_9_15 c d e f g h i j k l a b, rn9_9_16 c d e f g h i j k l a b, a, rn9_9_17 c d e f g h i j k l a b)) (n9_26 (c, d, e, f, g, rn9_9_19 c d e f g h i j k l a b, h, i, rn9_9_18 c d e f g h i j k l a b, rn9_9_15 c d e f g h i j k l a b, rn9_9_16 c d e f g h i j k l a b, a, rn9_9_17 c d e f g h i j k l a b)) 1
noncomputable def go9_9 (c d : LL) (e : Int) (f : LL) (g h i : Int) (j : LL) (k l : Int) (a b : LL) : Bool := bif decide (g < (↑d.length : Int)) then bif decide (0 ≤ g) && decide (g < (↑d.length : Int)) then bif !rn9_9_0 c d e f g h i j k l a b == 0 then bif (intOf ((d.getD g.toNat []).getD 0 AV.junk)).tmod (8 : Int) == 2 then bif vev15_3 h i k l a b j (rn9_9_1 c d e f g h i j k l a b) (rn9_9_2 c d e f g h i j k l a b) (rn9_9_3 c d e f g h i j k l a b) (rn9_9_4 c d e f g h i j k l a b) then bif vev35_1 h i k l a (rn9_9_5 c d e f g h i j k l a b) (rn9_9_6 c d e f g h i j k l a b) then bif bif (↑(rn9_9_7 c d e f g h i j k l a b).length : Int) != (↑c.length : Int) then true else (↑f.length : Int) != (↑c.length : Int) then false else bif (spI g9_26 n9_26 y9_26 z9_26 d9_26 ((c, d, e, f, g, rn9_9_7 c d e f g h i j k l a b, h, i, rn9_9_6 c d e f g h i j k l a b, k, l, a, rn9_9_5 c d e f g h i j k l a b), 1)).fst then bif xc9_26_0 c d e f g (rn9_9_7 c d e f g h i j k l a b) (rn9_9_8 c d e f g h i j k l a b) h i (rn9_9_6 c d e f g h i j k l a b) k l a (rn9_9_5 c d e f g h i j k l a b) then false else true else false else false else false else bif (intOf ((d.getD g.toNat []).getD 0 AV.junk)).tmod (8 : Int) == 3 then bif vev15_3 h i k l a b j (rn9_9_1 c d e f g h i j k l a b) (rn9_9_2 c d e f g h i j k l a b) (rn9_9_3 c d e f g h i j k l a b) (rn9_9_4 c d e f g h i j k l a b) then bif vev35_1 h i k l a (rn9_9_5 c d e f g h i j k l a b) (rn9_9_6 c d e f g h i j k l a b) then bif bif (↑(rn9_9_7 c d e f g h i j k l a b).length : Int) != (↑c.length : Int) then true else (↑f.length : Int) != (↑c.length : Int) then false else bif (spI g9_26 n9_26 y9_26 z9_26 d9_26 ((c, d, e, f, g, rn9_9_7 c d e f g h i j k l a b, h, i, rn9_9_6 c d e f g h i j k l a b, k, l, a, rn9_9_5 c d e f g h i j k l a b), 1)).fst then bif xc9_26_0 c d e f g (rn9_9_7 c d e f g h i j k l a b) (rn9_9_8 c d e f g h i j k l a b) h i (rn9_9_6 c d e f g h i j k l a b) k l a (rn9_9_5 c d e f g h i j k l a b) then false else true else false else false else false else bif (intOf ((d.getD g.toNat []).getD 0 AV.junk)).tmod (8 : Int) == 4 then bif vev29_3 h i k l a b j (rn9_9_1 c d e f g h i j k l a b) (rn9_9_2 c d e f g h i j k l a b) then bif vev35_1 h i k l a (rn9_9_9 c d e f g h i j k l a b) (rn9_9_10 c d e f g h i j k l a b) then bif bif (↑(rn9_9_11 c d e f g h i j k l a b).length : Int) != (↑c.length : Int) then true else (↑f.length : Int) != (↑c.length : Int) then false else bif (spI g9_26 n9_26 y9_26 z9_26 d9_26 ((c, d, e, f, g, rn9_9_11 c d e f g h i j k l a b, h, i, rn9_9_10 c d e f g h i j k l a b, k, l, a, rn9_9_9 c d e f g h i j k l a b), 1)).fst then bif xc9_26_0 c d e f g (rn9_9_11 c d e f g h i j k l a b) (rn9_9_12 c d e f g h i j k l a b) h i (rn9_9_10 c d e f g h i j k l a b) k l a (rn9_9_9 c d e f g h i j k l a b) then false else true else false else false else false else bif (intOf ((d.getD g.toNat []).getD 0 AV.junk)).tmod (8 : Int) == 0 then bif vev35_1 h i k l a b j then bif bif (↑(rn9_9_13 c d e f g h i j k l a b).length : Int) != (↑c.length : Int) then true else (↑(rn9_9_13 c d e f g h i j k l a b).length : Int) != (↑c.length : Int) then false else bif (spI g9_26 n9_26 y9_26 z9_26 d9_26 ((c, d, e, rn9_9_13 c d e f g h i j k l a b, g, rn9_9_13 c d e f g h i j k l a b, h, i, j, k, l, a, b), 1)).fst then bif xc9_26_0 c d e (rn9_9_13 c d e f g h i j k l a b) g (rn9_9_13 c d e f g h i j k l a b) (rn9_9_14 c d e f g h i j k l a b) h i j k l a b then false else true else false else false else bif vev31_9 h i k l a b j then bif vev35_1 h i (rn9_9_15 c d e f g h i j k l a b) (rn9_9_16 c d e f g h i j k l a b) a (rn9_9_17 c d e f g h i j k l a b) (rn9_9_18 c d e f g h i j k l a b) then bif bif (↑(rn9_9_19 c d e f g h i j k l a b).length : Int) != (↑c.length : Int) then true else (↑f.length : Int) != (↑c.length : Int) then false else bif (spI g9_26 n9_26 y9_26 z9_26 d9_26 ((c, d, e, f, g, rn9_9_19 c d e f g h i j k l a b, h, i, rn9_9_18 c d e f g h i j k l a b, rn9_9_15 c d e f g h i j k l a b, rn9_9_16 c d e f g h i j k l a b, a, rn9_9_17 c d e f g h i j k l a b), 1)).fst then bif xc9_26_0 c d e f g (rn9_9_19 c d e f g h i j k l a b) (rn9_9_20 c d e f g h i j k l a b) h i (rn9_9_18 c d e f g h i j k l a b) (rn9_9_15 c d e f g h i j k l a b) (rn9_9_16 c d e f g h i j k l a b) a (rn9_9_17 c d e f g h i j k l a b) then false else true else false else false else false else false else false else false
noncomputable def nx9_9_3 (c d : LL) (e : Int) (f : LL) (g h i : Int) (j : LL) (k l : Int) (a b : LL) : LL := bif (intOf ((d.getD g.toNat []).getD 0 AV.junk)).tmod (8 : Int) == 2 then f else bif (intOf ((d.getD g.toNat []).getD 0 AV.junk)).tmod (8 : Int) == 3 then f else bif (intOf ((d.getD g.toNat []).getD 0 AV.junk)).tmod (8 : Int) == 4 then f else bif (intOf ((d.getD g.toNat []).getD 0 AV.junk)).tmod (8 : Int) == 0 then rn9_9_13 c d e f g h i j k l a b else f
noncomputable def nx9_9_4 (c d : LL) (e : Int) (f : LL) (g h i : Int) (j : LL) (k l : Int) (a b : LL) : Int := IntKind.i64.wrap (g + 1)
noncomputable def nx9_9_7 (c d : LL) (e : Int) (f : LL) (g h i : Int) (j : LL) (k l : Int) (a b : LL) : LL := bif (intOf ((d.getD g.toNat []).getD 0 AV.junk)).tmod (8 : Int) == 2 then rn9_9_6 c d e f g h i j k l a b else bif (intOf ((d.getD g.toNat []).getD 0 AV.junk)).tmod (8 : Int) == 3 then rn9_9_6 c d e f g h i j k l a b else bif (intOf ((d.getD g.toNat []).getD 0 AV.junk)).tmod (8 : Int) == 4 then rn9_9_10 c d e f g h i j k l a b else bif (intOf ((d.getD g.toNat []).getD 0 AV.junk)).tmod (8 : Int) == 0 then j else rn9_9_18 c d e f g h i j k l a b
noncomputable def nx9_9_8 (c d : LL) (e : Int) (f : LL) (g h i : Int) (j : LL) (k l : Int) (a b : LL) : Int := bif (intOf ((d.getD g.toNat []).getD 0 AV.junk)).tmod (8 : Int) == 2 then k else bif (intOf ((d.getD g.toNat []).getD 0 AV.junk)).tmod (8 : Int) == 3 then k else bif (intOf ((d.getD g.toNat []).getD 0 AV.junk)).tmod (8 : Int) == 4 then k else bif (intOf ((d.getD g.toNat []).getD 0 AV.junk)).tmod (8 : Int) == 0 then k else rn9_9_15 c d e f g h i j k l a b
noncomputable def nx9_9_9 (c d : LL) (e : Int) (f : LL) (g h i : Int) (j : LL) (k l : Int) (a b : LL) : Int := bif (intOf ((d.getD g.toNat []).getD 0 AV.junk)).tmod (8 : Int) == 2 then l else bif (intOf ((d.getD g.toNat []).getD 0 AV.junk)).tmod (8 : Int) == 3 then l else bif (intOf ((d.getD g.toNat []).getD 0 AV.junk)).tmod (8 : Int) == 4 then l else bif (intOf ((d.getD g.toNat []).getD 0 AV.junk)).tmod (8 : Int) == 0 then l else rn9_9_16 c d e f g h i j k l a b
noncomputable def nx9_9_11 (c d : LL) (e : Int) (f : LL) (g h i : Int) (j : LL) (k l : Int) (a b : LL) : LL := bif (intOf ((d.getD g.toNat []).getD 0 AV.junk)).tmod (8 : Int) == 2 then rn9_9_5 c d e f g h i j k l a b else bif (intOf ((d.getD g.toNat []).getD 0 AV.junk)).tmod (8 : Int) == 3 then rn9_9_5 c d e f g h i j k l a b else bif (intOf ((d.getD g.toNat []).getD 0 AV.junk)).tmod (8 : Int) == 4 then rn9_9_9 c d e f g h i j k l a b else bif (intOf ((d.getD g.toNat []).getD 0 AV.junk)).tmod (8 : Int) == 0 then b else rn9_9_17 c d e f g h i j k l a b
noncomputable def xc9_9_0 (c d : LL) (e : Int) (f : LL) (g h i : Int) (j : LL) (k l : Int) (a b : LL) : Bool := bif decide (g < (↑d.length : Int)) then bif decide (0 ≤ g) && decide (g < (↑d.length : Int)) then bif !rn9_9_0 c d e f g h i j k l a b == 0 then bif (intOf ((d.getD g.toNat []).getD 0 AV.junk)).tmod (8 : Int) == 2 then bif vev15_3 h i k l a b j (rn9_9_1 c d e f g h i j k l a b) (rn9_9_2 c d e f g h i j k l a b) (rn9_9_3 c d e f g h i j k l a b) (rn9_9_4 c d e f g h i j k l a b) then bif vev35_1 h i k l a (rn9_9_5 c d e f g h i j k l a b) (rn9_9_6 c d e f g h i j k l a b) then bif bif (↑(rn9_9_7 c d e f g h i j k l a b).length : Int) != (↑c.length : Int) then true else (↑f.length : Int) != (↑c.length : Int) then true else bif (spI g9_26 n9_26 y9_26 z9_26 d9_26 ((c, d, e, f, g, rn9_9_7 c d e f g h i j k l a b, h, i, rn9_9_6 c d e f g h i j k l a b, k, l, a, rn9_9_5 c d e f g h i j k l a b), 1)).fst then xc9_26_0 c d e f g (rn9_9_7 c d e f g h i j k l a b) (rn9_9_8 c d e f g h i j k l a b) h i (rn9_9_6 c d e f g h i j k l a b) k l a (rn9_9_5 c d e f g h i j k l a b) else false else false else false else bif (intOf ((d.getD g.toNat []).getD 0 AV.junk)).tmod (8 : Int) == 3 then bif vev15_3 h i k l a b j (rn9_9_1 c d e f g h i j k l a b) (rn9_9_2 c d e f g h i j k l a b) (rn9_9_3 c d e f g h i j k l a b) (rn9_9_4 c d e f g h i j k l a b) then bif vev35_1 h i k l a (rn9_9_5 c d e f g h i j k l a b) (rn9_9_6 c d e f g h i j k l a b) then bif bif (↑(rn9_9_7 c d e f g h i j k l a b).length : Int) != (↑c.length : Int) then true else (↑f.length : Int) != (↑c.length : Int) then true else bif (spI g9_26 n9_26 y9_26 z9_26 d9_26 ((c, d, e, f, g, rn9_9_7 c d e f g h i j k l a b, h, i, rn9_9_6 c d e f g h i j k l a b, k, l, a, rn9_9_5 c d e f g h i j k l a b), 1)).fst then xc9_26_0 c d e f g (rn9_9_7 c d e f g h i j k l a b) (rn9_9_8 c d e f g h i j k l a b) h i (rn9_9_6 c d e f g h i j k l a b) k l a (rn9_9_5 c d e f g h i j k l a b) else false else false else false else bif (intOf ((d.getD g.toNat []).getD 0 AV.junk)).tmod (8 : Int) == 4 then bif vev29_3 h i k l a b j (rn9_9_1 c d e f g h i j k l a b) (rn9_9_2 c d e f g h i j k l a b) then bif vev35_1 h i k l a (rn9_9_9 c d e f g h i j k l a b) (rn9_9_10 c d e f g h i j k l a b) then bif bif (↑(rn9_9_11 c d e f g h i j k l a b).length : Int) != (↑c.length : Int) then true else (↑f.length : Int) != (↑c.length : Int) then true else bif (spI g9_26 n9_26 y9_26 z9_26 d9_26 ((c, d, e, f, g, rn9_9_11 c d e f g h i j k l a b, h, i, rn9_9_10 c d e f g h i j k l a b, k, l, a, rn9_9_9 c d e f g h i j k l a b), 1)).fst then xc9_26_0 c d e f g (rn9_9_11 c d e f g h i j k l a b) (rn9_9_12 c d e f g h i j k l a b) h i (rn9_9_10 c d e f g h i j k l a b) k l a (rn9_9_9 c d e f g h i j k l a b) else false else false else false else bif (intOf ((d.getD g.toNat []).getD 0 AV.junk)).tmod (8 : Int) == 0 then bif vev35_1 h i k l a b j then bif bif (↑(rn9_9_13 c d e f g h i j k l a b).length : Int) != (↑c.length : Int) then true else (↑(rn9_9_13 c d e f g h i j k l a b).length : Int) != (↑c.length : Int) then true else bif (spI g9_26 n9_26 y9_26 z9_26 d9_26 ((c, d, e, rn9_9_13 c d e f g h i j k l a b, g, rn9_9_13 c d e f g h i j k l a b, h, i, j, k, l, a, b), 1)).fst then xc9_26_0 c d e (rn9_9_13 c d e f g h i j k l a b) g (rn9_9_13 c d e f g h i j k l a b) (rn9_9_14 c d e f g h i j k l a b) h i j k l a b else false else false else bif vev31_9 h i k l a b j then bif vev35_1 h i (rn9_9_15 c d e f g h i j k l a b) (rn9_9_16 c d e f g h i j k l a b) a (rn9_9_17 c d e f g h i j k l a b) (rn9_9_18 c d e f g h i j k l a b) then bif bif (↑(rn9_9_19 c d e f g h i j k l a b).length : Int) != (↑c.length : Int) then true else (↑f.length : Int) != (↑c.length : Int) then true else bif (spI g9_26 n9_26 y9_26 z9_26 d9_26 ((c, d, e, f, g, rn9_9_19 c d e f g h i j k l a b, h, i, rn9_9_18 c d e f g h i j k l a b, rn9_9_15 c d e f g h i j k l a b, rn9_9_16 c d e f g h i j k l a b, a, rn9_9_17 c d e f g h i j k l a b), 1)).fst then xc9_26_0 c d e f g (rn9_9_19 c d e f g h i j k l a b) (rn9_9_20 c d e f g h i j k l a b) h i (rn9_9_18 c d e f g h i j k l a b) (rn9_9_15 c d e f g h i j k l a b) (rn9_9_16 c d e f g h i j k l a b) a (rn9_9_17 c d e f g h i j k l a b) else false else false else false else false else false else false
noncomputable def xc9_9_1 (c d : LL) (e : Int) (f : LL) (g h i : Int) (j : LL) (k l : Int) (a b : LL) : Bool := bif decide (g < (↑d.length : Int)) then false else true
theorem rd9_9 (rest : Lsp) (c d : LL) (e : Int) (f : LL) (g i j : Int) (k : LL) (l m : Int) (a b : LL) : roundV (cfg Try.prog tab 100000 (gk k40 30) (selL 29 ls9_29 (selL 26 ls9_26 rest)) 9 0 Try.f9.ntmps) (loopAt Try.f9 9) [1, 2, 7, 8, 9, 10] [0, 1, 2] [6] [] [AV.sl Tk.imm [Kd.int IntKind.u8] c, AV.sl Tk.imm [Kd.int IntKind.u8, Kd.int IntKind.i64, Kd.int IntKind.i64, Kd.int IntKind.i64, Kd.int IntKind.i64] d, iA e, AV.hp 0 0, AV.sl Tk.imm kF f, iA g] (bS i j k l m a b) = bif go9_9 c d e f g i j k l m a b then some (Ex.norm, [AV.sl Tk.imm [Kd.int IntKind.u8] c, AV.sl Tk.imm [Kd.int IntKind.u8, Kd.int IntKind.i64, Kd.int IntKind.i64, Kd.int IntKind.i64, Kd.int IntKind.i64] d, iA e, AV.hp 0 0, AV.sl Tk.imm kF (nx9_9_3 c d e f g i j k l m a b), iA (nx9_9_4 c d e f g i j k l m a b)], (bS i j (nx9_9_7 c d e f g i j k l m a b) (nx9_9_8 c d e f g i j k l m a b) (nx9_9_9 c d e f g i j k l m a b) a (nx9_9_11 c d e f g i j k l m a b))) else bif xc9_9_0 c d e f g i j k l m a b then some (Ex.ret, [AV.bool false], []) else bif xc9_9_1 c d e f g i j k l m a b then some (Ex.exit 0, [AV.junk], []) else none := by
 refine Eq.trans (b := bif decide (g < (↑d.length : Int)) then bif decide (0 ≤ g) && decide (g < (↑d.length : Int)) then bif !rn9_9_0 c d e f g i j k l m a b == 0 then bif decide (0 ≤ g) && decide (g < (↑d.length : Int)) then bif decide (0 ≤ g) && decide (g < (↑d.length : Int)) then bif (intOf ((d.getD g.toNat []).getD 0 AV.junk)).tmod (8 : Int) == 2 then bif (intOf ((d.getD g.toNat []).getD 0 AV.junk)).tmod (8 : Int) == 2 then bif decide (0 ≤ g) && decide (g < (↑d.length : Int)) then bif decide (0 ≤ g) && decide (g < (↑d.length : Int)) then bif vev15_3 i j l m a b k (rn9_9_1 c d e f g i j k l m a b) (rn9_9_2 c d e f g i j k l m a b) (rn9_9_3 c d e f g i j k l m a b) (rn9_9_4 c d e f g i j k l m a b) then bif vev35_1 i j l m a (rn9_9_5 c d e f g i j k l m a b) (rn9_9_6 c d e f g i j k l m a b) then bif bif (↑(rn9_9_7 c d e f g i j k l m a b).length : Int) != (↑c.length : Int) then true else true then bif bif (↑(rn9_9_7 c d e f g i j k l m a b).length : Int) != (↑c.length : Int) then true else bif false then true else (↑f.length : Int) != (↑c.length : Int) then some (Ex.ret, [AV.bool false], []) else bif (spI g9_26 n9_26 y9_26 z9_26 d9_26 ((c, d, e, f, g, rn9_9_7 c d e f g i j k l m a b, i, j, rn9_9_6 c d e f g i j k l m a b, l, m, a, rn9_9_5 c d e f g i j k l m a b), 1)).fst then bif xc9_26_0 c d e f g (rn9_9_7 c d e f g i j k l m a b) (rn9_9_8 c d e f g i j k l m a b) i j (rn9_9_6 c d e f g i j k l m a b) l m a (rn9_9_5 c d e f g i j k l m a b) then some (Ex.ret, [AV.bool false], []) else some (Ex.norm, [AV.sl Tk.imm [Kd.int IntKind.u8] c, AV.sl Tk.imm [Kd.int IntKind.u8, Kd.int IntKind.i64, Kd.int IntKind.i64, Kd.int IntKind.i64, Kd.int IntKind.i64] d, iA e, AV.hp 0 0, AV.sl Tk.imm kF f, iA (IntKind.i64.wrap (g + 1))], (bS i j (rn9_9_6 c d e f g i j k l m a b) l m a (rn9_9_5 c d e f g i j k l m a b))) else none else none else none else none else none else none else bif (intOf ((d.getD g.toNat []).getD 0 AV.junk)).tmod (8 : Int) == 4 then bif vev29_3 i j l m a b k (rn9_9_1 c d e f g i j k l m a b) (rn9_9_2 c d e f g i j k l m a b) then bif vev35_1 i j l m a (rn9_9_9 c d e f g i j k l m a b) (rn9_9_10 c d e f g i j k l m a b) then bif bif (↑(rn9_9_11 c d e f g i j k l m a b).length : Int) != (↑c.length : Int) then true else true then bif bif (↑(rn9_9_11 c d e f g i j k l m a b).length : Int) != (↑c.length : Int) then true else bif false then true else (↑f.length : Int) != (↑c.length : Int) then some (Ex.ret, [AV.bool false], []) else bif (spI g9_26 n9_26 y9_26 z9_26 d9_26 ((c, d, e, f, g, rn9_9_11 c d e f g i j k l m a b, i, j, rn9_9_10 c d e f g i j k l m a b, l, m, a, rn9_9_9 c d e f g i j k l m a b), 1)).fst then bif xc9_26_0 c d e f g (rn9_9_11 c d e f g i j k l m a b) (rn9_9_12 c d e f g i j k l m a b) i j (rn9_9_10 c d e f g i j k l m a b) l m a (rn9_9_9 c d e f g i j k l m a b) then some (Ex.ret, [AV.bool false], []) else some (Ex.norm, [AV.sl Tk.imm [Kd.int IntKind.u8] c, AV.sl Tk.imm [Kd.int IntKind.u8, Kd.int IntKind.i64, Kd.int IntKind.i64, Kd.int IntKind.i64, Kd.int IntKind.i64] d, iA e, AV.hp 0 0, AV.sl Tk.imm kF f, iA (IntKind.i64.wrap (g + 1))], (bS i j (rn9_9_10 c d e f g i j k l m a b) l m a (rn9_9_9 c d e f g i j k l m a b))) else none else none else none else none else bif (intOf ((d.getD g.toNat []).getD 0 AV.junk)).tmod (8 : Int) == 0 then bif vev35_1 i j l m a b k then bif vev35_1 i j l m a b k then bif bif (↑(rn9_9_13 c d e f g i j k l m a b).length : Int) != (↑c.length : Int) then true else true then bif bif (↑(rn9_9_13 c d e f g i j k l m a b).length : Int) != (↑c.length : Int) then true else bif false then true else (↑(rn9_9_13 c d e f g i j k l m a b).length : Int) != (↑c.length : Int) then some (Ex.ret, [AV.bool false], []) else bif (spI g9_26 n9_26 y9_26 z9_26 d9_26 ((c, d, e, rn9_9_13 c d e f g i j k l m a b, g, rn9_9_13 c d e f g i j k l m a b, i, j, k, l, m, a, b), 1)).fst then bif xc9_26_0 c d e (rn9_9_13 c d e f g i j k l m a b) g (rn9_9_13 c d e f g i j k l m a b) (rn9_9_14 c d e f g i j k l m a b) i j k l m a b then some (Ex.ret, [AV.bool false], []) else some (Ex.norm, [AV.sl Tk.imm [Kd.int IntKind.u8] c, AV.sl Tk.imm [Kd.int IntKind.u8, Kd.int IntKind.i64, Kd.int IntKind.i64, Kd.int IntKind.i64, Kd.int IntKind.i64] d, iA e, AV.hp 0 0, AV.sl Tk.imm kF (rn9_9_13 c d e f g i j k l m a b), iA (IntKind.i64.wrap (g + 1))], (bS i j k l m a b)) else none else none else none else none else bif vev31_9 i j l m a b k then bif vev35_1 i j (rn9_9_15 c d e f g i j k l m a b) (rn9_9_16 c d e f g i j k l m a b) a (rn9_9_17 c d e f g i j k l m a b) (rn9_9_18 c d e f g i j k l m a b) then bif bif (↑(rn9_9_19 c d e f g i j k l m a b).length : Int) != (↑c.length : Int) then true else true then bif bif (↑(rn9_9_19 c d e f g i j k l m a b).length : Int) != (↑c.length : Int) then true else bif false then true else (↑f.length : Int) != (↑c.length : Int) then some (Ex.ret, [AV.bool false], []) else bif (spI g9_26 n9_26 y9_26 z9_26 d9_26 ((c, d, e, f, g, rn9_9_19 c d e f g i j k l m a b, i, j, rn9_9_18 c d e f g i j k l m a b, rn9_9_15 c d e f g i j k l m a b, rn9_9_16 c d e f g i j k l m a b, a, rn9_9_17 c d e f g i j k l m a b), 1)).fst then bif xc9_26_0 c d e f g (rn9_9_19 c d e f g i j k l m a b) (rn9_9_20 c d e f g i j k l m a b) i j (rn9_9_18 c d e f g i j k l m a b) (rn9_9_15 c d e f g i j k l m a b) (rn9_9_16 c d e f g i j k l m a b) a (rn9_9_17 c d e f g i j k l m a b) then some (Ex.ret, [AV.bool false], []) else some (Ex.norm, [AV.sl Tk.imm [Kd.int IntKind.u8] c, AV.sl Tk.imm [Kd.int IntKind.u8, Kd.int IntKind.i64, Kd.int IntKind.i64, Kd.int IntKind.i64, Kd.int IntKind.i64] d, iA e, AV.hp 0 0, AV.sl Tk.imm kF f, iA (IntKind.i64.wrap (g + 1))], (bS i j (rn9_9_18 c d e f g i j k l m a b) (rn9_9_15 c d e f g i j k l m a b) (rn9_9_16 c d e f g i j k l m a b) a (rn9_9_17 c d e f g i j k l m a b))) else none else none else none else none else bif (intOf ((d.getD g.toNat []).getD 0 AV.junk)).tmod (8 : Int) == 3 then bif decide (0 ≤ g) && decide (g < (↑d.length : Int)) then bif decide (0 ≤ g) && decide (g < (↑d.length : Int)) then bif vev15_3 i j l m a b k (rn9_9_1 c d e f g i j k l m a b) (rn9_9_2 c d e f g i j k l m a b) (rn9_9_3 c d e f g i j k l m a b) (rn9_9_4 c d e f g i j k l m a b) then bif vev35_1 i j l m a (rn9_9_5 c d e f g i j k l m a b) (rn9_9_6 c d e f g i j k l m a b) then bif bif (↑(rn9_9_7 c d e f g i j k l m a b).length : Int) != (↑c.length : Int) then true else true then bif bif (↑(rn9_9_7 c d e f g i j k l m a b).length : Int) != (↑c.length : Int) then true else bif false then true else (↑f.length : Int) != (↑c.length : Int) then some (Ex.ret, [AV.bool false], []) else bif (spI g9_26 n9_26 y9_26 z9_26 d9_26 ((c, d, e, f, g, rn9_9_7 c d e f g i j k l m a b, i, j, rn9_9_6 c d e f g i j k l m a b, l, m, a, rn9_9_5 c d e f g i j k l m a b), 1)).fst then bif xc9_26_0 c d e f g (rn9_9_7 c d e f g i j k l m a b) (rn9_9_8 c d e f g i j k l m a b) i j (rn9_9_6 c d e f g i j k l m a b) l m a (rn9_9_5 c d e f g i j k l m a b) then some (Ex.ret, [AV.bool false], []) else some (Ex.norm, [AV.sl Tk.imm [Kd.int IntKind.u8] c, AV.sl Tk.imm [Kd.int IntKind.u8, Kd.int IntKind.i64, Kd.int IntKind.i64, Kd.int IntKind.i64, Kd.int IntKind.i64] d, iA e, AV.hp 0 0, AV.sl Tk.imm kF f, iA (IntKind.i64.wrap (g + 1))], (bS i j (rn9_9_6 c d e f g i j k l m a b) l m a (rn9_9_5 c d e f g i j k l m a b))) else none else none else none else none else none else none else bif (intOf ((d.getD g.toNat []).getD 0 AV.junk)).tmod (8 : Int) == 4 then bif vev29_3 i j l m a b k (rn9_9_1 c d e f g i j k l m a b) (rn9_9_2 c d e f g i j k l m a b) then bif vev35_1 i j l m a (rn9_9_9 c d e f g i j k l m a b) (rn9_9_10 c d e f g i j k l m a b) then bif bif (↑(rn9_9_11 c d e f g i j k l m a b).length : Int) != (↑c.length : Int) then true else true then bif bif (↑(rn9_9_11 c d e f g i j k l m a b).length : Int) != (↑c.length : Int) then true else bif false then true else (↑f.length : Int) != (↑c.length : Int) then some (Ex.ret, [AV.bool false], []) else bif (spI g9_26 n9_26 y9_26 z9_26 d9_26 ((c, d, e, f, g, rn9_9_11 c d e f g i j k l m a b, i, j, rn9_9_10 c d e f g i j k l m a b, l, m, a, rn9_9_9 c d e f g i j k l m a b), 1)).fst then bif xc9_26_0 c d e f g (rn9_9_11 c d e f g i j k l m a b) (rn9_9_12 c d e f g i j k l m a b) i j (rn9_9_10 c d e f g i j k l m a b) l m a (rn9_9_9 c d e f g i j k l m a b) then some (Ex.ret, [AV.bool false], []) else some (Ex.norm, [AV.sl Tk.imm [Kd.int IntKind.u8] c, AV.sl Tk.imm [Kd.int IntKind.u8, Kd.int IntKind.i64, Kd.int IntKind.i64, Kd.int IntKind.i64, Kd.int IntKind.i64] d, iA e, AV.hp 0 0, AV.sl Tk.imm kF f, iA (IntKind.i64.wrap (g + 1))], (bS i j (rn9_9_10 c d e f g i j k l m a b) l m a (rn9_9_9 c d e f g i j k l m a b))) else none else none else none else none else bif (intOf ((d.getD g.toNat []).getD 0 AV.junk)).tmod (8 : Int) == 0 then bif vev35_1 i j l m a b k then bif vev35_1 i j l m a b k then bif bif (↑(rn9_9_13 c d e f g i j k l m a b).length : Int) != (↑c.length : Int) then true else true then bif bif (↑(rn9_9_13 c d e f g i j k l m a b).length : Int) != (↑c.length : Int) then true else bif false then true else (↑(rn9_9_13 c d e f g i j k l m a b).length : Int) != (↑c.length : Int) then some (Ex.ret, [AV.bool false], []) else bif (spI g9_26 n9_26 y9_26 z9_26 d9_26 ((c, d, e, rn9_9_13 c d e f g i j k l m a b, g, rn9_9_13 c d e f g i j k l m a b, i, j, k, l, m, a, b), 1)).fst then bif xc9_26_0 c d e (rn9_9_13 c d e f g i j k l m a b) g (rn9_9_13 c d e f g i j k l m a b) (rn9_9_14 c d e f g i j k l m a b) i j k l m a b then some (Ex.ret, [AV.bool false], []) else some (Ex.norm, [AV.sl Tk.imm [Kd.int IntKind.u8] c, AV.sl Tk.imm [Kd.int IntKind.u8, Kd.int IntKind.i64, Kd.int IntKind.i64, Kd.int IntKind.i64, Kd.int IntKind.i64] d, iA e, AV.hp 0 0, AV.sl Tk.imm kF (rn9_9_13 c d e f g i j k l m a b), iA (IntKind.i64.wrap (g + 1))], (bS i j k l m a b)) else none else none else none else none else bif vev31_9 i j l m a b k then bif vev35_1 i j (rn9_9_15 c d e f g i j k l m a b) (rn9_9_16 c d e f g i j k l m a b) a (rn9_9_17 c d e f g i j k l m a b) (rn9_9_18 c d e f g i j k l m a b) then bif bif (↑(rn9_9_19 c d e f g i j k l m a b).length : Int) != (↑c.length : Int) then true else true then bif bif (↑(rn9_9_19 c d e f g i j k l m a b).length : Int) != (↑c.length : Int) then true else bif false then true else (↑f.length : Int) != (↑c.length : Int) then some (Ex.ret, [AV.bool false], []) else bif (spI g9_26 n9_26 y9_26 z9_26 d9_26 ((c, d, e, f, g, rn9_9_19 c d e f g i j k l m a b, i, j, rn9_9_18 c d e f g i j k l m a b, rn9_9_15 c d e f g i j k l m a b, rn9_9_16 c d e f g i j k l m a b, a, rn9_9_17 c d e f g i j k l m a b), 1)).fst then bif xc9_26_0 c d e f g (rn9_9_19 c d e f g i j k l m a b) (rn9_9_20 c d e f g i j k l m a b) i j (rn9_9_18 c d e f g i j k l m a b) (rn9_9_15 c d e f g i j k l m a b) (rn9_9_16 c d e f g i j k l m a b) a (rn9_9_17 c d e f g i j k l m a b) then some (Ex.ret, [AV.bool false], []) else some (Ex.norm, [AV.sl Tk.imm [Kd.int IntKind.u8] c, AV.sl Tk.imm [Kd.int IntKind.u8, Kd.int IntKind.i64, Kd.int IntKind.i64, Kd.int IntKind.i64, Kd.int IntKind.i64] d, iA e, AV.hp 0 0, AV.sl Tk.imm kF f, iA (IntKind.i64.wrap (g + 1))], (bS i j (rn9_9_18 c d e f g i j k l m a b) (rn9_9_15 c d e f g i j k l m a b) (rn9_9_16 c d e f g i j k l m a b) a (rn9_9_17 c d e f g i j k l m a b))) else none else none else none else none else none else none else none else none else some (Ex.exit 0, [AV.junk], [])) (by kernel_rfl) ?_
 unfold go9_9 nx9_9_3 nx9_9_4 nx9_9_7 nx9_9_8 nx9_9_9 nx9_9_11 xc9_9_0 xc9_9_1
 generalize ((spI g9_26 n9_26 y9_26 z9_26 d9_26 ((c, d, e, f, g, rn9_9_19 c d e f g i j k l m a b, i, j, rn9_9_18 c d e f g i j k l m a b, rn9_9_15 c d e f g i j k l m a b, rn9_9_16 c d e f g i j k l m a b, a, rn9_9_17 c d e f g i j k l m a b), 1)).fst) = c0
 generalize ((spI g9_26 n9_26 y9_26 z9_26 d9_26 ((c, d, e, f, g, rn9_9_7 c d e f g i j k l m a b, i, j, rn9_9_6 c d e f g i j k l m a b, l, m, a, rn9_9_5 c d e f g i j k l m a b), 1)).fst) = c1
 generalize ((spI g9_26 n9_26 y9_26 z9_26 d9_26 ((c, d, e, f, g, rn9_9_11 c d e f g i j k l m a b, i, j, rn9_9_10 c d e f g i j k l m a b, l, m, a, rn9_9_9 c d e f g i j k l m a b), 1)).fst) = c2
 generalize ((spI g9_26 n9_26 y9_26 z9_26 d9_26 ((c, d, e, rn9_9_13 c d e f g i j k l m a b, g, rn9_9_13 c d e f g i j k l m a b, i, j, k, l, m, a, b), 1)).fst) = c3
 generalize (xc9_26_0 c d e f g (rn9_9_19 c d e f g i j k l m a b) (rn9_9_20 c d e f g i j k l m a b) i j (rn9_9_18 c d e f g i j k l m a b) (rn9_9_15 c d e f g i j k l m a b) (rn9_9_16 c d e f g i j k l m a b) a (rn9_9_17 c d e f g i j k l m a b)) = c4
 generalize (xc9_26_0 c d e f g (rn9_9_11 c d e f g i j k l m a b) (rn9_9_12 c d e f g i j k l m a b) i j (rn9_9_10 c d e f g i j k l m a b) l m a (rn9_9_9 c d e f g i j k l m a b)) = c5
 generalize (xc9_26_0 c d e f g (rn9_9_7 c d e f g i j k l m a b) (rn9_9_8 c d e f g i j k l m a b) i j (rn9_9_6 c d e f g i j k l m a b) l m a (rn9_9_5 c d e f g i j k l m a b)) = c6
 generalize (vev15_3 _ _ _ _ _ _ _ _ _ _ _) = c7
 generalize (vev35_1 i j (rn9_9_15 c d e f g i j k l m a b) (rn9_9_16 c d e f g i j k l m a b) a (rn9_9_17 c d e f g i j k l m a b) (rn9_9_18 c d e f g i j k l m a b)) = c8
 generalize (xc9_26_0 c d e (rn9_9_13 c d e f g i j k l m a b) g (rn9_9_13 c d e f g i j k l m a b) (rn9_9_14 c d e f g i j k l m a b) i j k l m a b) = c9
 generalize (decide (0 ≤ g) && decide (g < (↑d.length : Int))) = c10
 generalize (vev29_3 _ _ _ _ _ _ _ _ _) = c11
 generalize ((intOf ((d.getD g.toNat []).getD 0 AV.junk)).tmod (8 : Int) == 0) = c12
 generalize ((intOf ((d.getD g.toNat []).getD 0 AV.junk)).tmod (8 : Int) == 4) = c13
 generalize ((intOf ((d.getD g.toNat []).getD 0 AV.junk)).tmod (8 : Int) == 2) = c14
 generalize ((intOf ((d.getD g.toNat []).getD 0 AV.junk)).tmod (8 : Int) == 3) = c15
 generalize (vev35_1 i j l m a (rn9_9_9 c d e f g i j k l m a b) (rn9_9_10 c d e f g i j k l m a b)) = c16
 generalize (vev35_1 i j l m a (rn9_9_5 c d e f g i j k l m a b) (rn9_9_6 c d e f g i j k l m a b)) = c17
 generalize ((↑(rn9_9_11 c d e f g i j k l m a b).length : Int) != (↑c.length : Int)) = c18
 generalize ((↑(rn9_9_13 c d e f g i j k l m a b).length : Int) != (↑c.length : Int)) = c19
 generalize ((↑(rn9_9_7 c d e f g i j k l m a b).length : Int) != (↑c.length : Int)) = c20
 generalize ((↑(rn9_9_19 c d e f g i j k l m a b).length : Int) != (↑c.length : Int)) = c21
 generalize (!rn9_9_0 c d e f g i j k l m a b == 0) = c22
 generalize (decide (g < (↑d.length : Int))) = c23
 generalize ((↑f.length : Int) != (↑c.length : Int)) = c24
 generalize (vev35_1 i j l m a b k) = c25
 generalize (vev31_9 _ _ _ _ _ _ _) = c26
 cases c23; rfl; cases c10; rfl; cases c22; rfl; cases c14; cases c15; cases c13; cases c12; cases c26; rfl; cases c8; rfl; cases c21; cases c24
 cases c0; rfl; cases c4; rfl; rfl; rfl; rfl; cases c25; rfl; cases c19; cases c3; rfl; cases c9; rfl; rfl; rfl; cases c11; rfl; cases c16; rfl
 cases c18; cases c24; cases c2; rfl; cases c5; rfl; rfl; rfl; rfl; cases c7; rfl; cases c17; rfl; cases c20; cases c24; cases c1; rfl; cases c6; rfl
 rfl; rfl; rfl; cases c7; rfl; cases c17; rfl; cases c20; cases c24; cases c1; rfl; cases c6; rfl; rfl; rfl; rfl
abbrev pl9_9 : Type := LL × LL × Int × Int × Int × LL
abbrev sl9_9 : Type := LL × Int × LL × Int × Int × LL
noncomputable def vt9_9 (a : pl9_9 × sl9_9) : List AV := [AV.sl Tk.imm [Kd.int IntKind.u8] a.1.1, AV.sl Tk.imm [Kd.int IntKind.u8, Kd.int IntKind.i64, Kd.int IntKind.i64, Kd.int IntKind.i64, Kd.int IntKind.i64] a.1.2.1, iA a.1.2.2.1, AV.hp 0 0, AV.sl Tk.imm kF a.2.1, iA a.2.2.1]
noncomputable def vc9_9 (a : pl9_9 × sl9_9) : List Blk := (bS a.1.2.2.2.1 a.1.2.2.2.2.1 a.2.2.2.1 a.2.2.2.2.1 a.2.2.2.2.2.1 a.1.2.2.2.2.2 a.2.2.2.2.2.2)
noncomputable def de9_9 (vt : List AV) (vc : List Blk) : Option (pl9_9 × sl9_9) :=
 match vt with
 | [qa0, qa1, qa2, qa3, qa4, qa5] => (match vc with
 | [qb0, qb1, qb2] => (match qa0 with
 | .sl Tk.imm [Kd.int IntKind.u8] t1 => (match qa1 with
 | .sl Tk.imm [Kd.int IntKind.u8, .int .i64, .int .i64, .int .i64, .int .i64] t2 => (match qa2 with
 | .int .i64 t7 => (match qa3 with
 | AV.hp (0) (0) => (match qa4 with
 | .sl Tk.imm [.int .i64, .int .i64, .int .i64, .int .i64, .int .i64, .int .i64, .sl [.int .i64, .int .i64, .int .i64, .int .i64]] t9 => (match qa5 with
 | .int .i64 t10 => (match qb0 with
 | .var [.int .i64 b0_0, .int .i64 b0_1, AV.rf (1) [.int .i64], AV.mp (2) [.int .i64, .int .i64, .int .i64, .int .i64, .int .i64, .int .i64, .sl [.int .i64, .int .i64, .int .i64, .int .i64]], .sl Tk.imm [.int .i64, .int .i64] b0_4, .int .i64 b0_5, .int .i64 b0_6] => (match qb1 with
 | .row [.int .i64] b1 => (match qb2 with
 | Blk.tbl [.int .i64, .int .i64, .int .i64, .int .i64, .int .i64, .int .i64, .sl [.int .i64, .int .i64, .int .i64, .int .i64]] b2 none => (some ((t1, t2, t7, b0_0, b0_1, b1), (t9, t10, b0_4, b0_5, b0_6, b2)))
 | _ => none)
 | _ => none)
 | _ => none)
 | _ => none)
 | _ => none)
 | _ => none)
 | _ => none)
 | _ => none)
 | _ => none)
 | _ => none)
 | _ => none
theorem de9_9_ok (vt : List AV) (vc : List Blk) (a : pl9_9 × sl9_9) (h : de9_9 vt vc = some a) : vt = vt9_9 a ∧ vc = vc9_9 a := by
 unfold de9_9 at h
 iterate 11 (split at h; rotate_left; · cases h)
 injection h with h; subst h; exact ⟨rfl, rfl⟩
noncomputable def g9_9 (p : pl9_9) (s : sl9_9) : Bool := go9_9 p.1 p.2.1 p.2.2.1 s.1 s.2.1 p.2.2.2.1 p.2.2.2.2.1 s.2.2.1 s.2.2.2.1 s.2.2.2.2.1 p.2.2.2.2.2 s.2.2.2.2.2
noncomputable def n9_9 (p : pl9_9) (s : sl9_9) : sl9_9 := (nx9_9_3 p.1 p.2.1 p.2.2.1 s.1 s.2.1 p.2.2.2.1 p.2.2.2.2.1 s.2.2.1 s.2.2.2.1 s.2.2.2.2.1 p.2.2.2.2.2 s.2.2.2.2.2, nx9_9_4 p.1 p.2.1 p.2.2.1 s.1 s.2.1 p.2.2.2.1 p.2.2.2.2.1 s.2.2.1 s.2.2.2.1 s.2.2.2.2.1 p.2.2.2.2.2 s.2.2.2.2.2, nx9_9_7 p.1 p.2.1 p.2.2.1 s.1 s.2.1 p.2.2.2.1 p.2.2.2.2.1 s.2.2.1 s.2.2.2.1 s.2.2.2.2.1 p.2.2.2.2.2 s.2.2.2.2.2, nx9_9_8 p.1 p.2.1 p.2.2.1 s.1 s.2.1 p.2.2.2.1 p.2.2.2.2.1 s.2.2.1 s.2.2.2.1 s.2.2.2.2.1 p.2.2.2.2.2 s.2.2.2.2.2, nx9_9_9 p.1 p.2.1 p.2.2.1 s.1 s.2.1 p.2.2.2.1 p.2.2.2.2.1 s.2.2.1 s.2.2.2.1 s.2.2.2.2.1 p.2.2.2.2.2 s.2.2.2.2.2, nx9_9_11 p.1 p.2.1 p.2.2.1 s.1 s.2.1 p.2.2.2.1 p.2.2.2.2.1 s.2.2.1 s.2.2.2.1 s.2.2.2.2.1 p.2.2.2.2.2 s.2.2.2.2.2)
noncomputable def y9_9 (p : pl9_9) (s : sl9_9) : List (Bool × Out) := [(xc9_9_0 p.1 p.2.1 p.2.2.1 s.1 s.2.1 p.2.2.2.1 p.2.2.2.2.1 s.2.2.1 s.2.2.2.1 s.2.2.2.2.1 p.2.2.2.2.2 s.2.2.2.2.2, (Ex.ret, [AV.bool false], []))]
noncomputable def z9_9 (p : pl9_9) (s : sl9_9) : Bool := xc9_9_1 p.1 p.2.1 p.2.2.1 s.1 s.2.1 p.2.2.2.1 p.2.2.2.2.1 s.2.2.1 s.2.2.2.1 s.2.2.2.2.1 p.2.2.2.2.2 s.2.2.2.2.2
noncomputable def d9_9 (p : pl9_9) (s : sl9_9) : Out := (Ex.exit 0, [AV.junk], [])
noncomputable def ls9_9 := lspOf [1, 2, 7, 8, 9, 10] [0, 1, 2] [6] [] Try.f9.ntmps (0 + tab.nid 9) de9_9 (spI g9_9 n9_9 y9_9 z9_9 d9_9)
theorem lo9_9 (rest : Lsp) : lO k40 (selL 29 ls9_29 (selL 26 ls9_26 (selL 9 ls9_9 rest))) 9 0 Try.f9 9 := LoopOK1.iter (i := 9) (by kernel_rfl) [1, 2, 7, 8, 9, 10] [0, 1, 2] [6] [] vt9_9 vc9_9 de9_9 g9_9 n9_9 y9_9 z9_9 d9_9 (fun _ => rfl) de9_9_ok (fun p s => rd9_9 (selL 9 ls9_9 rest) (p.1) (p.2.1) (p.2.2.1) (s.1) (s.2.1) (p.2.2.2.1) (p.2.2.2.2.1) (s.2.2.1) (s.2.2.2.1) (s.2.2.2.2.1) (p.2.2.2.2.2) (s.2.2.2.2.2)) (fun _ _ => rfl)
noncomputable def lsp9 : Lsp := (selL 29 ls9_29 (selL 26 ls9_26 (selL 9 ls9_9 noLsp)))
theorem loops9 : ∀ c, Try.f9.body = some c → lsO k40 lsp9 9 0 Try.f9 c := loops_of [9, 26, 29] (by kernel_rfl) (by kernel_rfl) (fun i hi => by
 simp only [List.mem_cons, List.not_mem_nil, or_false] at hi
 rcases hi with rfl | rfl | rfl
 ·exact lo9_9 noLsp
 ·exact lo9_26 (selL 9 ls9_9 noLsp)
 ·exact lo9_29 (selL 26 ls9_26 (selL 9 ls9_9 noLsp)))
noncomputable def rev9_0 (q : Int) (ws l : LL) : Int := IntKind.i64.wrap (1 + IntKind.i64.wrap q)
noncomputable def rev9_1 (q : Int) (ws l : LL) : LL := rev40_2 (rev9_0 q ws l) ws
noncomputable def rev9_2 (q : Int) (ws l : LL) : LL := rev40_3 (rev9_0 q ws l) ws
noncomputable def rev9_3 (q : Int) (ws l : LL) : LL := rev40_1 (rev9_0 q ws l) ws
noncomputable def rev9_4 (q : Int) (ws l : LL) : sl9_9 := finL (g9_9 (ws, l, rev9_0 q ws l, rev9_0 q ws l, 4, rev9_1 q ws l)) (n9_9 (ws, l, rev9_0 q ws l, rev9_0 q ws l, 4, rev9_1 q ws l)) (vev35_0 (rev9_0 q ws l) 4 0 0 (rev9_1 q ws l) (rev9_2 q ws l) (rev9_3 q ws l), 0, rev9_3 q ws l, 0, 0, rev9_2 q ws l)
noncomputable def vev9_0 (q : Int) (ws l : LL) : Bool := bif bif decide ((↑ws.length : Int) < 2) then true else bif decide ((↑ws.length : Int) > 8) then true else decide ((↑l.length : Int) > 100) then true else bif xc9_9_0 ws l (rev9_0 q ws l) (rev9_4 q ws l).fst (rev9_4 q ws l).snd.fst (rev9_0 q ws l) 4 (rev9_4 q ws l).snd.snd.fst (rev9_4 q ws l).snd.snd.snd.fst (rev9_4 q ws l).snd.snd.snd.snd.fst (rev9_1 q ws l) (rev9_4 q ws l).snd.snd.snd.snd.snd then false else true
noncomputable def vev9_1 (q : Int) (ws l : LL) : Bool := bif bif decide ((↑ws.length : Int) < 2) then true else bif decide ((↑ws.length : Int) > 8) then true else decide ((↑l.length : Int) > 100) then true else bif ok40 (rev9_0 q ws l) ws then bif vev35_1 (rev9_0 q ws l) 4 0 0 (rev9_1 q ws l) (rev9_2 q ws l) (rev9_3 q ws l) then bif (spI g9_9 n9_9 y9_9 z9_9 d9_9 ((ws, l, rev9_0 q ws l, rev9_0 q ws l, 4, rev9_1 q ws l), vev35_0 (rev9_0 q ws l) 4 0 0 (rev9_1 q ws l) (rev9_2 q ws l) (rev9_3 q ws l), 0, rev9_3 q ws l, 0, 0, rev9_2 q ws l)).fst then true else false else false else false
theorem ev9 (q : Int) (ws l : LL) : evFun (cfg Try.prog tab 100000 (gk k40 30) lsp9 9 ([] : List Blk).length Try.f9.ntmps) Try.f9 [.int .u8 q, .sl .imm [.int .u8] ws, .sl .imm [.int .u8, .int .i64, .int .i64, .int .i64, .int .i64] l] [] = bif vev9_1 q ws l then some (AV.bool (vev9_0 q ws l), []) else none := by
 refine Eq.trans (b := bif bif decide ((↑ws.length : Int) < 2) then true else bif bif false then true else decide ((↑ws.length : Int) > 8) then true else true then bif bif decide ((↑ws.length : Int) < 2) then true else bif bif false then true else decide ((↑ws.length : Int) > 8) then true else bif false then true else decide ((↑l.length : Int) > 100) then some (AV.bool true, []) else bif ok40 (rev9_0 q ws l) ws then bif vev35_1 (rev9_0 q ws l) 4 0 0 (rev9_1 q ws l) (rev9_2 q ws l) (rev9_3 q ws l) then bif (spI g9_9 n9_9 y9_9 z9_9 d9_9 ((ws, l, rev9_0 q ws l, rev9_0 q ws l, 4, rev9_1 q ws l), vev35_0 (rev9_0 q ws l) 4 0 0 (rev9_1 q ws l) (rev9_2 q ws l) (rev9_3 q ws l), 0, rev9_3 q ws l, 0, 0, rev9_2 q ws l)).fst then bif xc9_9_0 ws l (rev9_0 q ws l) (rev9_4 q ws l).fst (rev9_4 q ws l).snd.fst (rev9_0 q ws l) 4 (rev9_4 q ws l).snd.snd.fst (rev9_4 q ws l).snd.snd.snd.fst (rev9_4 q ws l).snd.snd.snd.snd.fst (rev9_1 q ws l) (rev9_4 q ws l).snd.snd.snd.snd.snd then some (AV.bool false, []) else some (AV.bool true, []) else none else none else none else none) (by kernel_rfl) ?_
 unfold vev9_0 vev9_1
 generalize (xc9_9_0 ws l (rev9_0 q ws l) (rev9_4 q ws l).fst (rev9_4 q ws l).snd.fst (rev9_0 q ws l) 4 (rev9_4 q ws l).snd.snd.fst (rev9_4 q ws l).snd.snd.snd.fst (rev9_4 q ws l).snd.snd.snd.snd.fst (rev9_1 q ws l) (rev9_4 q ws l).snd.snd.snd.snd.snd) = c0
 generalize (spI g9_9 _ _ _ _ _).fst = c1
 generalize (vev35_1 _ _ _ _ _ _ _) = c2
 generalize (decide ((↑ws.length : Int) < 2)) = c3
 generalize (decide ((↑l.length : Int) > 100)) = c4
 generalize (decide ((↑ws.length : Int) > 8)) = c5
 generalize (ok40 (rev9_0 q ws l) ws) = c6
 cases c3; cases c5; cases c4; cases c6; rfl; cases c2; rfl; cases c1; rfl; cases c0; rfl; rfl; rfl; rfl; rfl
end Go.Proofs.Gv
namespace Go.Proofs.Gv
open Go.Proofs
section
variable {ws l rd ord tb : List (List AV)} {q ii b0 b1 t k lim K : Int} {n : Nat} {W : Nat → Int} {fs fs0 : List Fl}
theorem ends29 (h : NF n W q fs) (h0 : NF n W q fs0) (hW : ∀ i, i < n → 1 ≤ W i ∧ W i ≤ 16) (hq : 0 ≤ q ∧ q ≤ 1000) (h8 : n ≤ 8) (hmono : ∀ i, i < n → (atF fs0 i).k ≤ (atF fs i).k) (hfl : ∀ i, i < n → FlOK lim K (atF fs i)) (hK : K ≤ 1099511627776) {a : Nat} (ha : a < n) :
  Ends (g9_29 (ws, l, q, rowsF fs0, ii, rowsF fs, (a : Int), b0, b1, rd, t, k, ord, tb)) (n9_29 (ws, l, q, rowsF fs0, ii, rowsF fs, (a : Int), b0, b1, rd, t, k, ord, tb)) (0 : Int) (a : Int) := by
 refine Ends.count (go := g9_29 (ws, l, q, rowsF fs0, ii, rowsF fs, (a : Int), b0, b1, rd, t, k, ord, tb)) (next := n9_29 (ws, l, q, rowsF fs0, ii, rowsF fs, (a : Int), b0, b1, rd, t, k, ord, tb)) a (fun j => (j : Int)) (fun j hj => ?_) ?_
 ·have hjn : j < n := by omega
  have ca := (Lk.rows fs).cells (show a < fs.length by rw [h.len]; exact ha)
  have cj := (Lk.rows fs).cells (show j < fs.length by rw [h.len]; exact hjn)
  have ca0 := (Lk.rows fs0).cells (show a < fs0.length by rw [h0.len]; exact ha)
  have cj0 := (Lk.rows fs0).cells (show j < fs0.length by rw [h0.len]; exact hjn)
  have hN := near41 h h0 hW hq hmono hfl hK ha hjn
  constructor
  ·show go9_29 ws l q (rowsF fs0) ii (rowsF fs) (a : Int) (j : Int) b0 b1 rd t k ord tb = true
   unfold go9_29
   rw [ca.2.1, ca.2.2.1, ca.2.2.2.1, ca.2.2.2.2.1, cj.2.1, cj.2.2.1, cj.2.2.2.1, cj.2.2.2.2.1, ca0.2.2.2.2.1, cj0.2.2.2.2.1, hN, rowsF_len, rowsF_len, h.len, h0.len, in2 ha, in2 hjn, decide_eq_true (show (j : Int) < (a : Int) by omega)]
   rfl
  ·show nx9_29_7 ws l q (rowsF fs0) ii (rowsF fs) (a : Int) (j : Int) b0 b1 rd t k ord tb = _
   unfold nx9_29_7
   exact nxt8 j n hjn h8
 ·show go9_29 ws l q (rowsF fs0) ii (rowsF fs) (a : Int) (a : Int) b0 b1 rd t k ord tb = false
  unfold go9_29
  rw [decide_eq_false (show ¬ (a : Int) < (a : Int) by omega)]
  rfl
theorem spn29 (h : NF n W q fs) (h0 : NF n W q fs0) (hW : ∀ i, i < n → 1 ≤ W i ∧ W i ≤ 16) (hq : 0 ≤ q ∧ q ≤ 1000) (h8 : n ≤ 8) (hmono : ∀ i, i < n → (atF fs0 i).k ≤ (atF fs i).k) (hfl : ∀ i, i < n → FlOK lim K (atF fs i)) (hK : K ≤ 1099511627776) {a : Nat} (ha : a < n) :
  (spI g9_29 n9_29 y9_29 z9_29 d9_29 ((ws, l, q, rowsF fs0, ii, rowsF fs, (a : Int), b0, b1, rd, t, k, ord, tb), (0 : Int))).fst = true ∧ rn9_26_0 ws l q (rowsF fs0) ii (rowsF fs) (a : Int) b0 b1 rd t k ord tb = (a : Int) := by
 have f := (ends29 (ws := ws) (l := l) (rd := rd) (ord := ord) (tb := tb) (ii := ii) (b0 := b0) (b1 := b1) (t := t) (k := k) h h0 hW hq h8 hmono hfl hK ha).fin
 constructor
 ·simp only [spI]
  rw [f.2, f.1]
  unfold z9_29 xc9_29_1 y9_29 xc9_29_0
  dsimp only
  rw [decide_eq_false (show ¬ (a : Int) < (a : Int) by omega)]
  rfl
 ·unfold rn9_26_0
  exact f.2
theorem ends26 (h : NF n W q fs) (h0 : NF n W q fs0) (hW : ∀ i, i < n → 1 ≤ W i ∧ W i ≤ 16) (hq : 0 ≤ q ∧ q ≤ 1000) (h8 : n ≤ 8) (h1 : 1 ≤ n) (hmono : ∀ i, i < n → (atF fs0 i).k ≤ (atF fs i).k) (hfl : ∀ i, i < n → FlOK lim K (atF fs i)) (hK : K ≤ 1099511627776) :
  Ends (g9_26 (ws, l, q, rowsF fs0, ii, rowsF fs, b0, b1, rd, t, k, ord, tb)) (n9_26 (ws, l, q, rowsF fs0, ii, rowsF fs, b0, b1, rd, t, k, ord, tb)) (1 : Int) (n : Int) := by
 have key := Ends.count (go := g9_26 (ws, l, q, rowsF fs0, ii, rowsF fs, b0, b1, rd, t, k, ord, tb)) (next := n9_26 (ws, l, q, rowsF fs0, ii, rowsF fs, b0, b1, rd, t, k, ord, tb)) (n - 1) (fun m => ((m + 1 : Nat) : Int)) (fun m hm => ?_) ?_
 ·rwa [show n - 1 + 1 = n by omega] at key
 ·have ha : m + 1 < n := by omega
  obtain ⟨s1, s2⟩ := spn29 (ws := ws) (l := l) (rd := rd) (ord := ord) (tb := tb) (ii := ii) (b0 := b0) (b1 := b1) (t := t) (k := k) h h0 hW hq h8 hmono hfl hK ha
  constructor
  ·show go9_26 ws l q (rowsF fs0) ii (rowsF fs) ((m + 1 : Nat) : Int) b0 b1 rd t k ord tb = true
   unfold go9_26
   rw [s1, s2, rowsF_len, h.len, decide_eq_true (show ((m + 1 : Nat) : Int) < (n : Int) by omega)]
   unfold xc9_29_0
   rw [decide_eq_false (show ¬ ((m + 1 : Nat) : Int) < ((m + 1 : Nat) : Int) by omega)]
   rfl
  ·show nx9_26_6 ws l q (rowsF fs0) ii (rowsF fs) ((m + 1 : Nat) : Int) b0 b1 rd t k ord tb = _
   unfold nx9_26_6
   exact nxt8 (m + 1) n ha h8
 ·show go9_26 ws l q (rowsF fs0) ii (rowsF fs) ((n - 1 + 1 : Nat) : Int) b0 b1 rd t k ord tb = false
  unfold go9_26
  rw [rowsF_len, h.len, decide_eq_false (show ¬ ((n - 1 + 1 : Nat) : Int) < (n : Int) by omega)]
  rfl
theorem chk26 (h : NF n W q fs) (h0 : NF n W q fs0) (hW : ∀ i, i < n → 1 ≤ W i ∧ W i ≤ 16) (hq : 0 ≤ q ∧ q ≤ 1000) (h8 : n ≤ 8) (h1 : 1 ≤ n) (hmono : ∀ i, i < n → (atF fs0 i).k ≤ (atF fs i).k) (hfl : ∀ i, i < n → FlOK lim K (atF fs i)) (hK : K ≤ 1099511627776) :
  (spI g9_26 n9_26 y9_26 z9_26 d9_26 ((ws, l, q, rowsF fs0, ii, rowsF fs, b0, b1, rd, t, k, ord, tb), (1 : Int))).fst = true ∧
  xc9_26_0 ws l q (rowsF fs0) ii (rowsF fs) (finL (g9_26 (ws, l, q, rowsF fs0, ii, rowsF fs, b0, b1, rd, t, k, ord, tb)) (n9_26 (ws, l, q, rowsF fs0, ii, rowsF fs, b0, b1, rd, t, k, ord, tb)) (1 : Int)) b0 b1 rd t k ord tb = false := by
 have f := (ends26 (ws := ws) (l := l) (rd := rd) (ord := ord) (tb := tb) (ii := ii) (b0 := b0) (b1 := b1) (t := t) (k := k) h h0 hW hq h8 h1 hmono hfl hK).fin
 constructor
 ·simp only [spI]
  rw [f.2, f.1]
  unfold z9_26 xc9_26_1 y9_26 xc9_26_0
  dsimp only
  rw [rowsF_len, h.len, decide_eq_false (show ¬ (n : Int) < (n : Int) by omega)]
  rfl
 ·rw [f.2]
  unfold xc9_26_0
  rw [rowsF_len, h.len, decide_eq_false (show ¬ (n : Int) < (n : Int) by omega)]
  rfl
end
theorem u64_small {x : Int} (h0 : 0 ≤ x) (h1 : x ≤ 18446744073709551615) : IntKind.u64.wrap x = x := by
 have : IntKind.u64.wrap x = x % 18446744073709551616 := by simp [IntKind.wrap, IntKind.signed, IntKind.bits]
 rw [this]; omega
theorem u64_pos (x : Int) : 0 ≤ IntKind.u64.wrap x := by
 have : IntKind.u64.wrap x = x % 18446744073709551616 := by simp [IntKind.wrap, IntKind.signed, IntKind.bits]
 rw [this]; omega
theorem id_b (x : Int) : 3 ≤ IntKind.i64.wrap (3 + IntKind.i64.wrap (2 * IntKind.i64.wrap ((IntKind.u64.wrap x).tmod 50))) := by
 have e := Int.tmod_eq_emod_of_nonneg (b := 50) (u64_pos x)
 rw [e, wrapOf (IntKind.u64.wrap x % 50) (by omega) (by omega), wrapOf (2 * (IntKind.u64.wrap x % 50)) (by omega) (by omega), wrapOf _ (by omega) (by omega)]
 omega
structure P9 (q : Int) (ws : List (List AV)) (ord : List (List AV)) (i : Nat) (S : Sc) (fs0 : List Fl) : Prop where
 I : Inv S
 qe : S.q = q
 le : S.lim = 4
 oe : ordsF S.fs = ord
 nf : NF ws.length (wt ws) q S.fs
 nf0 : NF ws.length (wt ws) q fs0
 mono : ∀ j, j < ws.length → (atF fs0 j).k ≤ (atF S.fs j).k
 full : FullF (1000000 - 256 * (i : Int)) S.fs
theorem P9.chk {q : Int} {ws l ord rd tb : List (List AV)} {i : Nat} {S : Sc} {fs0 : List Fl} {t k ii : Int} (P : P9 q ws ord i S fs0) (h2 : 2 ≤ ws.length) (h8 : ws.length ≤ 8) (hq : 0 ≤ q ∧ q ≤ 1000) :
  (spI g9_26 n9_26 y9_26 z9_26 d9_26 ((ws, l, q, rowsF fs0, ii, rowsF S.fs, q, 4, rd, t, k, ord, tb), (1 : Int))).fst = true ∧
  xc9_26_0 ws l q (rowsF fs0) ii (rowsF S.fs) (finL (g9_26 (ws, l, q, rowsF fs0, ii, rowsF S.fs, q, 4, rd, t, k, ord, tb)) (n9_26 (ws, l, q, rowsF fs0, ii, rowsF S.fs, q, 4, rd, t, k, ord, tb)) (1 : Int)) q 4 rd t k ord tb = false := by
 have hk := P.I.k
 have hfb : 0 ≤ blF S.fs := (blN_b P.I.gd S.fs.length (Nat.le_refl _)).1
 exact chk26 P.nf P.nf0 (fun i _ => wt_b ws i) hq h8 (by omega) P.mono (lim := S.lim) (K := S.k) (fun j hj => P.I.fl j (by rw [P.nf.len]; exact hj)) (by omega)
theorem P9.tell {q : Int} {ws ord rd : List (List AV)} {i : Nat} {S : Sc} {fs0 : List Fl} {t k : Int} (P : P9 q ws ord i S fs0) : vev35_0 q 4 t k ord (tabsF S.fs) rd = rowsF S.fs ∧ vev35_1 q 4 t k ord (tabsF S.fs) rd = true := by
 have h := fl35 (q := q) (t := t) (k := k) (rd := rd) P.I.len P.I.one P.I.gd
 rwa [P.le, P.oe] at h
theorem step9 {q : Int} {ws l ord : List (List AV)} (h2 : 2 ≤ ws.length) (h8 : ws.length ≤ 8) (hq : 1 ≤ q ∧ q ≤ 256) {i : Nat} (hi : i < l.length) (h100 : l.length ≤ 100) {S : Sc} {fs0 : List Fl} (P : P9 q ws ord i S fs0) : ∃ S' fs0', P9 q ws ord (i + 1) S' fs0' ∧
  g9_9 (ws, l, q, q, 4, ord) (rowsF fs0, (i : Int), R S.h, S.t, S.k, tabsF S.fs) = true ∧
  n9_9 (ws, l, q, q, 4, ord) (rowsF fs0, (i : Int), R S.h, S.t, S.k, tabsF S.fs) = (rowsF fs0', ((i + 1 : Nat) : Int), R S'.h, S'.t, S'.k, tabsF S'.fs) := by
 obtain ⟨sq, sl, st, sk, fs, h⟩ := S
 have P' := P
 obtain ⟨I, rfl, rfl, rfl, hnf, hnf0, hmono, hfull⟩ := P
 dsimp only at *
 have hw : IntKind.i64.wrap ((i : Int) + 1) = ((i + 1 : Nat) : Int) := nxt i l.length hi (by omega)
 have hlt : decide ((i : Int) < (l.length : Int)) = true := decide_eq_true (by omega)
 have hq1 : 0 ≤ sq ∧ sq ≤ 1000 := by omega
 have hmF : ∀ {r r' : Int} {gs : List Fl}, FullF r gs → r' ≤ r → FullF r' gs := fun hf hr j hj => (hf j hj).mono hr
 have hr' : (1000000 : Int) - 256 * ((i + 1 : Nat) : Int) ≤ 1000000 - 256 * (i : Int) := by omega
 have hu0 : (!(IntKind.u64.wrap (ws.length : Int) == 0)) = true := by
  rw [u64_small (by omega) (by omega), beq_eq_false_iff_ne.2 (show (ws.length : Int) ≠ 0 by omega)]
  rfl
 have hid := id_b (intOf ((l.getD (i : Int).toNat []).getD ((0 : Nat) + (1 : Nat) + (1 : Nat)) AV.junk))
 unfold g9_9 n9_9
 dsimp only
 unfold go9_9 nx9_9_3 nx9_9_4 nx9_9_7 nx9_9_8 nx9_9_9 nx9_9_11
 unfold rn9_9_20 rn9_9_19 rn9_9_18 rn9_9_17 rn9_9_16 rn9_9_15 rn9_9_14 rn9_9_13 rn9_9_12 rn9_9_11 rn9_9_10 rn9_9_9 rn9_9_8 rn9_9_7 rn9_9_6 rn9_9_5
 have ei : rn9_9_2 ws l sq (rowsF fs0) (i : Int) sq 4 (R h) st sk (ordsF fs) (tabsF fs) = IntKind.i64.wrap (3 + IntKind.i64.wrap (2 * IntKind.i64.wrap ((IntKind.u64.wrap (intOf ((l.getD (i : Int).toNat []).getD ((0 : Nat) + (1 : Nat) + (1 : Nat)) AV.junk))).tmod 50))) := rfl
 rw [← ei] at hid
 have e0 : rn9_9_0 ws l sq (rowsF fs0) (i : Int) sq 4 (R h) st sk (ordsF fs) (tabsF fs) = IntKind.u64.wrap (ws.length : Int) := rfl
 rw [e0]
 rw [hw, in2 hi, hlt, hu0]
 generalize rn9_9_1 ws l sq (rowsF fs0) (i : Int) sq 4 (R h) st sk (ordsF fs) (tabsF fs) = c
 generalize rn9_9_2 ws l sq (rowsF fs0) (i : Int) sq 4 (R h) st sk (ordsF fs) (tabsF fs) = d at hid ⊢
 generalize rn9_9_3 ws l sq (rowsF fs0) (i : Int) sq 4 (R h) st sk (ordsF fs) (tabsF fs) = n
 generalize rn9_9_4 ws l sq (rowsF fs0) (i : Int) sq 4 (R h) st sk (ordsF fs) (tabsF fs) = z
 generalize Int.tmod (intOf ((l.getD (i : Int).toNat []).getD 0 AV.junk)) 8 = kind
 have hl0 : ((rowsF fs0).length : Int) = (ws.length : Int) := by rw [rowsF_len, hnf0.len]
 have adc : ∃ S', P9 sq ws (ordsF fs) (i + 1) S' fs0 ∧ (S'.t = st ∧ S'.k = sk) ∧ vev15_1 sq 4 st sk (ordsF fs) (tabsF fs) (R h) c d n z = R S'.h ∧ vev15_2 sq 4 st sk (ordsF fs) (tabsF fs) (R h) c d n z = tabsF S'.fs ∧ vev15_3 sq 4 st sk (ordsF fs) (tabsF fs) (R h) c d n z = true := by
  obtain ⟨e, S', I', hst, ⟨j0, j1, j2, j3, j4⟩, _⟩ := admit15 I c d n z
  dsimp only at *
  refine ⟨S', ?_, ?_, j1, j2, j4⟩
  ·rcases hst with ⟨_, rfl⟩ | ⟨_, j, h', hj, _, _, _, rfl⟩
   ·exact ⟨I', rfl, rfl, rfl, hnf, hnf0, hmono, hmF hfull hr'⟩
   ·dsimp only at *
    have hpos := (hfull j hj).pos
    have hadm : admF st 4 (atF fs j) d n z = ⟨(atF fs j).c, (atF fs j).w, (atF fs j).s, (atF fs j).f, (atF fs j).k, 4, pu (atF fs j).rs d n z⟩ := by
     show (⟨_, _, if 0 < (atF fs j).rs.length then (atF fs j).s else mx st (atF fs j).f, _, _, _, _⟩ : Fl) = _
     rw [if_pos hpos]
    rw [hadm] at I' j3 ⊢
    refine ⟨I', rfl, rfl, j3.symm, hnf.same rfl rfl rfl, hnf0, fun m hm => ?_, hmF (hfull.set ((hfull j hj).pu d n z)) hr'⟩
    dsimp only
    rw [atF_set]
    split
    ·rename_i e; rw [e.1] at hm ⊢; exact hmono j hm
    ·exact hmono m hm
  ·rcases hst with ⟨_, rfl⟩ | ⟨_, _, _, _, _, _, _, rfl⟩ <;> exact ⟨rfl, rfl⟩
 have hnl : ∀ {S' : Sc}, P9 sq ws (ordsF fs) (i + 1) S' fs0 → ((rowsF S'.fs).length : Int) = (ws.length : Int) := fun Q => by rw [rowsF_len, Q.nf.len]
 cases (kind == 2) with
 | true =>
   obtain ⟨S', Q, ⟨rfl, rfl⟩, j1, j2, j3⟩ := adc
   have ht := Q.tell (rd := R S'.h) (t := S'.t) (k := S'.k)
   have hc := Q.chk (l := l) (rd := R S'.h) (tb := tabsF S'.fs) (t := S'.t) (k := S'.k) (ii := (i : Int)) h2 h8 hq1
   refine ⟨S', fs0, Q, ?_, ?_⟩
   ·simp only [cond_true, j1, j2, j3, ht.1, ht.2, hnl Q, hl0, bne_self_eq_false, cond_false, hc.1, hc.2]
   ·simp only [cond_true, j1, j2]
 | false =>
 cases (kind == 3) with
 | true =>
   obtain ⟨S', Q, ⟨rfl, rfl⟩, j1, j2, j3⟩ := adc
   have ht := Q.tell (rd := R S'.h) (t := S'.t) (k := S'.k)
   have hc := Q.chk (l := l) (rd := R S'.h) (tb := tabsF S'.fs) (t := S'.t) (k := S'.k) (ii := (i : Int)) h2 h8 hq1
   refine ⟨S', fs0, Q, ?_, ?_⟩
   ·simp only [cond_true, j1, j2, j3, ht.1, ht.2, hnl Q, hl0, bne_self_eq_false, cond_false, hc.1, hc.2]
   ·simp only [cond_true, cond_false, j1, j2]
 | false =>
 cases (kind == 4) with
 | true =>
   obtain ⟨e, S', I', hst, ⟨j0, j1, j2, j3, j4⟩, _⟩ := cancel29 I c d
   dsimp only at *
   have hs : S'.t = st ∧ S'.k = sk := by rcases hst with ⟨_, rfl⟩ | ⟨_, _, _, _, _, _, _, _, rfl⟩ <;> exact ⟨rfl, rfl⟩
   have Q : P9 sq ws (ordsF fs) (i + 1) S' fs0 := by
    rcases hst with ⟨_, rfl⟩ | ⟨_, j, m, h', hj, _, hm, hid2, rfl⟩
    ·exact ⟨I', rfl, rfl, rfl, hnf, hnf0, hmono, hmF hfull hr'⟩
    ·dsimp only at *
     refine ⟨I', rfl, rfl, j3.symm, hnf.same rfl rfl rfl, hnf0, fun m hm => ?_, hmF (hfull.set ((hfull j hj).wo hm (by rw [hid2]; omega))) hr'⟩
     dsimp only
     rw [atF_set]
     split
     ·rename_i e; rw [e.1] at hm ⊢; exact hmono j hm
     ·exact hmono m hm
   obtain ⟨rfl, rfl⟩ := hs
   have ht := Q.tell (rd := R S'.h) (t := S'.t) (k := S'.k)
   have hc := Q.chk (l := l) (rd := R S'.h) (tb := tabsF S'.fs) (t := S'.t) (k := S'.k) (ii := (i : Int)) h2 h8 hq1
   refine ⟨S', fs0, Q, ?_, ?_⟩
   ·simp only [cond_true, j1, j2, j4, ht.1, ht.2, hnl Q, hl0, bne_self_eq_false, cond_false, hc.1, hc.2]
   ·simp only [cond_true, cond_false, j1, j2]
 | false =>
 cases (kind == 0) with
 | true =>
   have Q : P9 sq ws (ordsF fs) (i + 1) ⟨sq, 4, st, sk, fs, h⟩ fs := ⟨I, rfl, rfl, rfl, hnf, hnf, fun j _ => Int.le_refl _, hmF hfull hr'⟩
   have ht := Q.tell (rd := R h) (t := st) (k := sk)
   have hc := Q.chk (l := l) (rd := R h) (tb := tabsF fs) (t := st) (k := sk) (ii := (i : Int)) h2 h8 hq1
   dsimp only at ht hc
   have hl1 : ((rowsF fs).length : Int) = (ws.length : Int) := by rw [rowsF_len, hnf.len]
   refine ⟨⟨sq, 4, st, sk, fs, h⟩, fs, Q, ?_, ?_⟩
   ·simp only [cond_true, ht.1, ht.2, hl1, bne_self_eq_false, cond_false, hc.1, hc.2]
   ·simp only [cond_true, cond_false, ht.1]
 | false =>
   obtain ⟨o, S', I', hst, ⟨_, b5, b6, b7, b8, b9, hq', hlim', b10⟩, _⟩ := serve31 I
   dsimp only at *
   have Q : P9 sq ws (ordsF fs) (i + 1) S' fs0 := by
    rcases hst with ⟨_, rfl, _⟩ | ⟨j, m, so, _⟩
    ·exact ⟨I', rfl, rfl, rfl, hnf, hnf0, hmono, hmF hfull hr'⟩
    ·obtain ⟨h', hS⟩ := so.st
     have hj := so.hi
     have hm := so.hk
     have hle := so.least
     dsimp only at *
     have f := I.fl j hj
     have hu := un_le f.g hm (show 1 ≤ sq by omega)
     dsimp only at hu
     have hK' := I'.k
     have hfb' : 0 ≤ blF S'.fs := (blN_b I'.gd S'.fs.length (Nat.le_refl _)).1
     have hfj := (I'.fl j (by rw [hS]; dsimp only; rw [List.length_set]; exact hj))
     have hkj : (atF fs j).k + un (atF fs j).rs m sq ≤ 1099511627776 := by
      have hx := hfj.k
      rw [hS] at hx hK'
      dsimp only at hx hK'
      rw [set_at hj] at hx
      dsimp only at hx
      rw [hS] at hfb'
      dsimp only at hfb'
      omega
     have hnf' := hnf.serve (lim := 4) (fun i _ => wt_b ws i) (by omega) hj (fun b hb => (hfull b hb).pos) hle (k := m) ⟨by omega, hu.2.2⟩ hkj
     rw [hS] at I' b9 ⊢
     dsimp only at b9
     refine ⟨I', rfl, rfl, b9.symm, hnf', hnf0, fun m2 hm2 => ?_, (hmF hfull hr').set (((hfull j hj).sv hm hu.2.2 (by omega) (by omega)).mono (by omega))⟩
     ·dsimp only
      rw [atF_set]
      split
      ·rename_i e
       rw [e.1] at hm2 ⊢
       have := hmono j hm2
       show (atF fs0 j).k ≤ (atF fs j).k + un (atF fs j).rs m sq
       omega
      ·exact hmono m2 hm2
   have ht := Q.tell (rd := R S'.h) (t := S'.t) (k := S'.k)
   have hc := Q.chk (l := l) (rd := R S'.h) (tb := tabsF S'.fs) (t := S'.t) (k := S'.k) (ii := (i : Int)) h2 h8 hq1
   refine ⟨S', fs0, Q, ?_, ?_⟩
   ·simp only [cond_true, b5, b6, b7, b8, b10, ht.1, ht.2, hnl Q, hl0, bne_self_eq_false, cond_false, hc.1, hc.2]
   ·simp only [cond_false, b5, b6, b7, b8]
theorem ends9 {q : Int} {ws l ord : List (List AV)} (h2 : 2 ≤ ws.length) (h8 : ws.length ≤ 8) (hq : 1 ≤ q ∧ q ≤ 256) (h100 : l.length ≤ 100) : ∀ (n i : Nat) (S : Sc) (fs0 : List Fl), l.length - i = n → i ≤ l.length → P9 q ws ord i S fs0 →
  ∃ (S' : Sc) (fs0' : List Fl), Ends (g9_9 (ws, l, q, q, 4, ord)) (n9_9 (ws, l, q, q, 4, ord)) (rowsF fs0, (i : Int), R S.h, S.t, S.k, tabsF S.fs) (rowsF fs0', (l.length : Int), R S'.h, S'.t, S'.k, tabsF S'.fs) := by
 intro n
 induction n with
 | zero =>
   intro i S fs0 hn hi P
   have : i = l.length := by omega
   subst this
   refine ⟨S, fs0, Ends.stop ?_⟩
   unfold g9_9 go9_9
   dsimp only
   rw [decide_eq_false (show ¬ (l.length : Int) < (l.length : Int) by omega)]
   rfl
 | succ n ih =>
   intro i S fs0 hn hi P
   obtain ⟨S1, f1, P1, s1, s2⟩ := step9 h2 h8 hq (show i < l.length by omega) h100 P
   obtain ⟨S2, f2, e2⟩ := ih (i + 1) S1 f1 (by omega) (by omega) P1
   refine ⟨S2, f2, Ends.step s1 ?_⟩
   rw [s2]
   exact e2
theorem law9 (q : Int) (ws l : List (List AV)) (hq : (Lit.int .u8 q).wf = true) (hw : ∀ x ∈ ws, okKL [.int .u8] x) : FnOK Try.prog 9 [.int .u8 q, .sl .imm [.int .u8] ws, .sl .imm [.int .u8, .int .i64, .int .i64, .int .i64, .int .i64] l] [] (.bool true) [] := by
 have hqb : 0 ≤ q ∧ q ≤ 255 := by
  have h2 : (decide (0 ≤ q) && decide (q ≤ 255)) = true := hq
  simpa using h2
 have x : vev9_0 q ws l = true ∧ vev9_1 q ws l = true := by
  by_cases hbig : (ws.length : Int) < 2 ∨ (ws.length : Int) > 8 ∨ (l.length : Int) > 100
  ·have hb : (bif decide ((ws.length : Int) < 2) then true else bif decide ((ws.length : Int) > 8) then true else decide ((l.length : Int) > 100)) = true := by
    by_cases a : (ws.length : Int) < 2
    ·rw [decide_eq_true a]; rfl
    ·by_cases b : (ws.length : Int) > 8
     ·rw [decide_eq_false a, decide_eq_true b]; rfl
     ·rw [decide_eq_false a, decide_eq_false b, decide_eq_true (show (l.length : Int) > 100 by omega)]; rfl
   unfold vev9_0 vev9_1
   rw [hb]
   exact ⟨rfl, rfl⟩
  ·have h2 : 2 ≤ ws.length := by omega
   have h8 : ws.length ≤ 8 := by omega
   have h100 : l.length ≤ 100 := by omega
   have e0 : rev9_0 q ws l = 1 + q := by unfold rev9_0; rw [wrapOf q (by omega) (by omega), wrapOf _ (by omega) (by omega)]
   obtain ⟨S, B, o1, o2, o3, o4⟩ := begun40 (q := 1 + q) (ws := ws) (by omega) hw h8
   have hnf := B.nf (by omega)
   have P0 : P9 (1 + q) ws (ordsF S.fs) 0 S S.fs := ⟨B.I, B.q, B.lim, rfl, hnf, hnf, fun j _ => Int.le_refl _, by simpa using B.full⟩
   have ht := P0.tell (rd := R S.h) (t := 0) (k := 0)
   obtain ⟨S', fs0', he⟩ := ends9 h2 h8 (by omega) h100 l.length 0 S S.fs (by omega) (by omega) P0
   rw [B.t, B.k] at he
   have f := he.fin
   have f3 : finL (g9_9 (ws, l, 1 + q, 1 + q, 4, ordsF S.fs)) (n9_9 (ws, l, 1 + q, 1 + q, 4, ordsF S.fs)) (rowsF S.fs, (0 : Int), R S.h, (0 : Int), (0 : Int), tabsF S.fs) = (rowsF fs0', (l.length : Int), R S'.h, S'.t, S'.k, tabsF S'.fs) := f.2
   have f1 : stopsB (g9_9 (ws, l, 1 + q, 1 + q, 4, ordsF S.fs)) (n9_9 (ws, l, 1 + q, 1 + q, 4, ordsF S.fs)) (rowsF S.fs, (0 : Int), R S.h, (0 : Int), (0 : Int), tabsF S.fs) = true := f.1
   have a1 : decide ((ws.length : Int) < 2) = false := decide_eq_false (by omega)
   have a2 : decide ((ws.length : Int) > 8) = false := decide_eq_false (by omega)
   have a3 : decide ((l.length : Int) > 100) = false := decide_eq_false (by omega)
   have r1 : rev9_1 q ws l = ordsF S.fs := by unfold rev9_1; rw [e0, o3]
   have r2 : rev9_2 q ws l = tabsF S.fs := by unfold rev9_2; rw [e0, o4]
   have r3 : rev9_3 q ws l = R S.h := by unfold rev9_3; rw [e0, o2]
   have r4 : rev9_4 q ws l = (rowsF fs0', (l.length : Int), R S'.h, S'.t, S'.k, tabsF S'.fs) := by unfold rev9_4; rw [e0, r1, r2, r3, ht.1]; exact f3
   constructor
   ·unfold vev9_0
    rw [a1, a2, a3, r4, e0, r1]
    dsimp only
    unfold xc9_9_0
    rw [decide_eq_false (show ¬ (l.length : Int) < (l.length : Int) by omega)]
    rfl
   ·unfold vev9_1
    rw [a1, a2, a3, e0, r1, r2, r3, ht.1, ht.2, o1]
    simp only [spI]
    rw [f1, f3]
    unfold z9_9 xc9_9_1 y9_9 xc9_9_0
    dsimp only
    rw [decide_eq_false (show ¬ (l.length : Int) < (l.length : Int) by omega)]
    rfl
 have h := ev9 q ws l
 rw [x.1, x.2, cond_true] at h
 exact (fn_ok mixed plain (gk_ok k40_ok 30) Try.func9 loops9 h).2
end Go.Proofs.Gv
