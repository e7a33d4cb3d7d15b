import Derived.Test.YthnbpgiohimkoaaPi33
import Derived.Test.YthnbpgiohimkoaaPi38
import Derived.Test.YthnbpgiohimkoaaPi27
import Derived.KernelRfl
import Derived.Test.YthnbpgiohimkoaaPi30
import Derived.Test.YthnbpgiohimkoaaPi31
import Derived.Test.YthnbpgiohimkoaaPi41
import Derived.Test.YthnbpgiohimkoaaPi34
set_option linter.unusedVariables false
namespace Go.Proofs.Gv
open Go.Proofs
noncomputable def vev12_0 (q l : Int) : Int := bif bif decide (q < 1) then true else bif decide (q > 1000) then true else bif decide (l < 1) then true else decide (l > 1000) then 0 else q
noncomputable def vev12_1 (q l : Int) : Int := bif bif decide (q < 1) then true else bif decide (q > 1000) then true else bif decide (l < 1) then true else decide (l > 1000) then 0 else l
noncomputable def vev12_2 (q l : Int) : Int := bif bif decide (q < 1) then true else bif decide (q > 1000) then true else bif decide (l < 1) then true else decide (l > 1000) then 8 else 0
theorem ev12 (q l : Int) : eF k27 noLsp 12 Try.f12 [iA q, iA l] [] = bif true then some (true, AV.tup [AV.agg [iA (vev12_0 q l), iA (vev12_1 q l), AV.sl Tk.imm kF [], iA 0, iA 0], iA (vev12_2 q l)], []) else none := by
 refine Eq.trans (b := bif bif decide (q < 1) then true else bif bif false then true else decide (q > 1000) then true else bif bif false then true else decide (l < 1) then true else true then bif bif decide (q < 1) then true else bif bif false then true else decide (q > 1000) then true else bif bif false then true else decide (l < 1) then true else bif false then true else decide (l > 1000) then some (true, AV.tup [AV.agg [iA 0, iA 0, AV.sl Tk.imm kF [], iA 0, iA 0], iA 8], []) else some (true, AV.tup [AV.agg [iA q, iA l, AV.sl Tk.imm kF [], iA 0, iA 0], iA 0], []) else none) (by kernel_rfl) ?_
 unfold vev12_0 vev12_1 vev12_2
 generalize (decide (l > 1000)) = c0
 generalize (decide (q < 1)) = c1
 generalize (decide (q > 1000)) = c2
 generalize (decide (l < 1)) = c3
 cases c1; cases c2; cases c3; cases c0; rfl; rfl; rfl; rfl; rfl
noncomputable def sp12 : Sp
 | [.int .i64 q, .int .i64 l], [] => spW (true) (some ((true, AV.tup [AV.agg [iA (vev12_0 q l), iA (vev12_1 q l), AV.sl Tk.imm kF [], iA 0, iA 0], iA (vev12_2 q l)], [])))
 | _, _ => none
noncomputable def k12 : Gam := spG 12 sp12 k27
theorem k12_ok : GamOK Try.prog k12 := spG_ok k27_ok fun T C r outs hs => by
   unfold sp12 at hs
   split at hs
   ·rename_i q l
    obtain ⟨hb, rfl, rfl⟩ := spT_inv hs
    have he := ev12 q l
    obtain ⟨r0, o0, h0, he⟩ := evFin_inv he
    obtain ⟨h1, h2⟩ := fn_ok mixed plain (gk_ok k27_ok 30) Try.func12 (fun c _ => LoopsOK.none (fun _ _ => rfl) c) h0
    exact ⟨h1, h2.fin he⟩
   ·cases hs
noncomputable def go46_2 (a b c d : Int) (h : Tk) (e : LL) (f g : Int) : Bool := bif decide (b < (↑e.length : Int)) then bif decide (0 ≤ b) && decide (b < (↑e.length : Int)) then bif intOf ((e.getD b.toNat []).getD 0 AV.junk) == a then false else true else false else false
noncomputable def nx46_2_1 (a b c d : Int) (h : Tk) (e : LL) (f g : Int) : Int := IntKind.i64.wrap (b + 1)
noncomputable def xc46_2_0 (a b c d : Int) (h : Tk) (e : LL) (f g : Int) : Bool := bif decide (b < (↑e.length : Int)) then bif decide (0 ≤ b) && decide (b < (↑e.length : Int)) then intOf ((e.getD b.toNat []).getD 0 AV.junk) == a else false else false
noncomputable def xc46_2_1 (a b c d : Int) (h : Tk) (e : LL) (f g : Int) : Bool := bif decide (b < (↑e.length : Int)) then false else true
theorem rd46_2 (rest : Lsp) (a b c d : Int) (i : Tk) (e : LL) (f g : Int) : rV k12 rest 46 0 Try.f46 2 [1, 2, 5] [0] [4] [] [iA a, AV.hp 0 0, iA b] [Blk.var [iA c, iA d, AV.sl i kF e, iA f, iA g]] = bif go46_2 a b c d i e f g then some (Ex.norm, [iA a, AV.hp 0 0, iA (nx46_2_1 a b c d i e f g)], [Blk.var [iA c, iA d, AV.sl i kF e, iA f, iA g]]) else bif xc46_2_0 a b c d i e f g then some (Ex.ret, [iA b], []) else bif xc46_2_1 a b c d i e f g then some (Ex.exit 0, [AV.junk], []) else none := by
 refine Eq.trans (b := bif decide (b < (↑e.length : Int)) then bif decide (0 ≤ b) && decide (b < (↑e.length : Int)) then bif intOf ((e.getD b.toNat []).getD 0 AV.junk) == a then some (Ex.ret, [iA b], []) else some (Ex.norm, [iA a, AV.hp 0 0, iA (IntKind.i64.wrap (b + 1))], [Blk.var [iA c, iA d, AV.sl i kF e, iA f, iA g]]) else none else some (Ex.exit 0, [AV.junk], [])) (by kernel_rfl) ?_
 unfold go46_2 nx46_2_1 xc46_2_0 xc46_2_1
 generalize (decide (0 ≤ b) && decide (b < (↑e.length : Int))) = c0
 generalize (intOf ((e.getD b.toNat []).getD 0 AV.junk) == a) = c1
 generalize (decide (b < (↑e.length : Int))) = c2
 cases c2; rfl; cases c0; rfl; cases c1; rfl; rfl
abbrev pl46_2 : Type := Int × Int × Int × Tk × LL × Int × Int
abbrev sl46_2 : Type := Int
noncomputable def vt46_2 (a : pl46_2 × sl46_2) : List AV := [iA a.1.1, AV.hp 0 0, iA a.2]
noncomputable def vc46_2 (a : pl46_2 × sl46_2) : List Blk := [Blk.var [iA a.1.2.1, iA a.1.2.2.1, AV.sl a.1.2.2.2.1 kF a.1.2.2.2.2.1, iA a.1.2.2.2.2.2.1, iA a.1.2.2.2.2.2.2]]
noncomputable def de46_2 (vt : List AV) (vc : List Blk) : Option (pl46_2 × sl46_2) :=
 match vt with
 | [qa0, qa1, qa2] => (match vc with
 | [qb0] => (match qa0 with
 | .int .i64 t1 => (match qa1 with
 | AV.hp (0) (0) => (match qa2 with
 | .int .i64 t5 => (match qb0 with
 | .var [.int .i64 b0_0, .int .i64 b0_1, .sl b0_2k [.int .i64, .int .i64, .int .i64, .int .i64, .int .i64, .int .i64, .sl [.int .i64, .int .i64, .int .i64, .int .i64]] b0_2, .int .i64 b0_3, .int .i64 b0_4] => (some ((t1, b0_0, b0_1, b0_2k, b0_2, b0_3, b0_4), t5))
 | _ => none)
 | _ => none)
 | _ => none)
 | _ => none)
 | _ => none)
 | _ => none
theorem de46_2_ok (vt : List AV) (vc : List Blk) (a : pl46_2 × sl46_2) (h : de46_2 vt vc = some a) : vt = vt46_2 a ∧ vc = vc46_2 a := by
 unfold de46_2 at h
 iterate 6 (split at h; rotate_left; · cases h)
 injection h with h; subst h; exact ⟨rfl, rfl⟩
noncomputable def g46_2 (p : pl46_2) (s : sl46_2) : Bool := go46_2 p.1 s p.2.1 p.2.2.1 p.2.2.2.1 p.2.2.2.2.1 p.2.2.2.2.2.1 p.2.2.2.2.2.2
noncomputable def n46_2 (p : pl46_2) (s : sl46_2) : sl46_2 := nx46_2_1 p.1 s p.2.1 p.2.2.1 p.2.2.2.1 p.2.2.2.2.1 p.2.2.2.2.2.1 p.2.2.2.2.2.2
noncomputable def y46_2 (p : pl46_2) (s : sl46_2) : List (Bool × Out) := [(xc46_2_0 p.1 s p.2.1 p.2.2.1 p.2.2.2.1 p.2.2.2.2.1 p.2.2.2.2.2.1 p.2.2.2.2.2.2, (Ex.ret, [iA s], []))]
noncomputable def z46_2 (p : pl46_2) (s : sl46_2) : Bool := xc46_2_1 p.1 s p.2.1 p.2.2.1 p.2.2.2.1 p.2.2.2.2.1 p.2.2.2.2.2.1 p.2.2.2.2.2.2
noncomputable def d46_2 (p : pl46_2) (s : sl46_2) : Out := (Ex.exit 0, [AV.junk], [])
noncomputable def ls46_2 := lspOf [1, 2, 5] [0] [4] [] Try.f46.ntmps (0 + tab.nid 46) de46_2 (spI g46_2 n46_2 y46_2 z46_2 d46_2)
theorem lo46_2 (rest : Lsp) : lO k12 (selL 2 ls46_2 rest) 46 0 Try.f46 2 := LoopOK1.iter (i := 2) (by kernel_rfl) [1, 2, 5] [0] [4] [] vt46_2 vc46_2 de46_2 g46_2 n46_2 y46_2 z46_2 d46_2 (fun _ => rfl) de46_2_ok (fun p s => rd46_2 (selL 2 ls46_2 rest) (p.1) s (p.2.1) (p.2.2.1) (p.2.2.2.1) (p.2.2.2.2.1) (p.2.2.2.2.2.1) (p.2.2.2.2.2.2)) (fun _ _ => rfl)
noncomputable def lsp46 : Lsp := (selL 2 ls46_2 noLsp)
theorem loops46 : ∀ c, Try.f46.body = some c → lsO k12 lsp46 46 0 Try.f46 c := loops_of [2] (by kernel_rfl) (by kernel_rfl) (fun i hi => by simp only [List.mem_cons, List.not_mem_nil, or_false] at hi; subst hi; exact lo46_2 noLsp)
noncomputable def rev46_0 (q lim t k : Int) (tk : Tk) (l : LL) (c : Int) : sl46_2 := finL (g46_2 (c, q, lim, tk, l, t, k)) (n46_2 (c, q, lim, tk, l, t, k)) 0
noncomputable def vev46_0 (q lim t k : Int) (tk : Tk) (l : LL) (c : Int) : sl46_2 := bif xc46_2_0 c (rev46_0 q lim t k tk l c) q lim tk l t k then rev46_0 q lim t k tk l c else (-1)
noncomputable def vev46_1 (q lim t k : Int) (tk : Tk) (l : LL) (c : Int) : Bool := bif (spI g46_2 n46_2 y46_2 z46_2 d46_2 ((c, q, lim, tk, l, t, k), 0)).fst then true else false
theorem ev46 (q lim t k : Int) (tk : Tk) (l : LL) (c : Int) : eF k12 lsp46 46 Try.f46 [.agg [iA q, iA lim, .sl tk kF l, iA t, iA k], iA c] [] = bif vev46_1 q lim t k tk l c then some (true, iA (vev46_0 q lim t k tk l c), []) else none := by
 refine Eq.trans (b := bif (spI g46_2 n46_2 y46_2 z46_2 d46_2 ((c, q, lim, tk, l, t, k), 0)).fst then bif xc46_2_0 c (rev46_0 q lim t k tk l c) q lim tk l t k then some (true, iA (rev46_0 q lim t k tk l c), []) else some (true, iA (-1), []) else none) (by kernel_rfl) ?_
 unfold vev46_0 vev46_1
 generalize (spI g46_2 _ _ _ _ _).fst = c0
 generalize (xc46_2_0 _ _ _ _ _ _ _ _) = c1
 cases c0; rfl; cases c1; rfl; rfl
noncomputable def sp46 : Sp
 | [.agg [.int .i64 q, .int .i64 lim, .sl tk [.int .i64, .int .i64, .int .i64, .int .i64, .int .i64, .int .i64, .sl [.int .i64, .int .i64, .int .i64, .int .i64]] l, .int .i64 t, .int .i64 k], .int .i64 c], [] => spW (vev46_1 q lim t k tk l c) (some ((true, iA (vev46_0 q lim t k tk l c), [])))
 | _, _ => none
noncomputable def k46 : Gam := spG 46 sp46 k12
theorem k46_ok : GamOK Try.prog k46 := spG_ok k12_ok fun T C r outs hs => by
   unfold sp46 at hs
   split at hs
   ·exact okE k12_ok Try.func46 loops46 (ev46 _ _ _ _ _ _ _) hs
   ·cases hs
noncomputable def rev54_0 (q lim t k : Int) (l : LL) (i fc fw fs ff fk fl : Int) (fe : LL) : LL := [[iA fc, iA fw, iA fs, iA ff, iA fk, iA fl, AV.sl Tk.imm kI4 fe]]
noncomputable def rev54_1 (q lim t k : Int) (l : LL) (i fc fw fs ff fk fl : Int) (fe : LL) : Int := IntKind.i64.wrap (i + 1)
noncomputable def rev54_2 (q lim t k : Int) (l : LL) (i fc fw fs ff fk fl : Int) (fe : LL) : LL := List.take i.toNat l ++ rev54_0 q lim t k l i fc fw fs ff fk fl fe
noncomputable def rev54_3 (q lim t k : Int) (l : LL) (i fc fw fs ff fk fl : Int) (fe : LL) : LL := List.drop (rev54_1 q lim t k l i fc fw fs ff fk fl fe).toNat l
noncomputable def vev54_0 (q lim t k : Int) (l : LL) (i fc fw fs ff fk fl : Int) (fe : LL) : LL := rev54_2 q lim t k l i fc fw fs ff fk fl fe ++ rev54_3 q lim t k l i fc fw fs ff fk fl fe
noncomputable def vev54_1 (q lim t k : Int) (l : LL) (i fc fw fs ff fk fl : Int) (fe : LL) : Bool := bif bnd 0 i (↑l.length : Int) then bif bif decide ((List.take i.toNat l).length * 72 ≤ 140737488355328) then decide ((List.take i.toNat l).length ≤ 9223372036854775807) else false then bif bif decide (((List.take i.toNat l).length + (rev54_0 q lim t k l i fc fw fs ff fk fl fe).length) * 72 ≤ 140737488355328) then decide ((List.take i.toNat l).length + (rev54_0 q lim t k l i fc fw fs ff fk fl fe).length ≤ 9223372036854775807) else false then bif bnd (rev54_1 q lim t k l i fc fw fs ff fk fl fe) (↑l.length : Int) (↑l.length : Int) then bif bif decide (((rev54_2 q lim t k l i fc fw fs ff fk fl fe).length + (rev54_3 q lim t k l i fc fw fs ff fk fl fe).length) * 72 ≤ 140737488355328) then decide ((rev54_2 q lim t k l i fc fw fs ff fk fl fe).length + (rev54_3 q lim t k l i fc fw fs ff fk fl fe).length ≤ 9223372036854775807) else false then true else false else false else false else false else false
theorem ev54 (q lim t k : Int) (l : LL) (i fc fw fs ff fk fl : Int) (fe : LL) : eF k46 noLsp 54 Try.f54 [.agg [iA q, iA lim, .sl .imm kF l, iA t, iA k], iA i, .agg [iA fc, iA fw, iA fs, iA ff, iA fk, iA fl, .sl .imm kI4 fe]] [] = bif vev54_1 q lim t k l i fc fw fs ff fk fl fe then some (true, AV.agg [iA q, iA lim, AV.sl Tk.imm kF (vev54_0 q lim t k l i fc fw fs ff fk fl fe), iA t, iA k], []) else none := by
 refine Eq.trans (b := bif bnd 0 i (↑l.length : Int) then bif bif decide ((List.take i.toNat l).length * 72 ≤ 140737488355328) then decide ((List.take i.toNat l).length ≤ 9223372036854775807) else false then bif bif decide (((List.take i.toNat l).length + (rev54_0 q lim t k l i fc fw fs ff fk fl fe).length) * 72 ≤ 140737488355328) then decide ((List.take i.toNat l).length + (rev54_0 q lim t k l i fc fw fs ff fk fl fe).length ≤ 9223372036854775807) else false then bif bnd (rev54_1 q lim t k l i fc fw fs ff fk fl fe) (↑l.length : Int) (↑l.length : Int) then bif bif decide (((rev54_2 q lim t k l i fc fw fs ff fk fl fe).length + (rev54_3 q lim t k l i fc fw fs ff fk fl fe).length) * 72 ≤ 140737488355328) then decide ((rev54_2 q lim t k l i fc fw fs ff fk fl fe).length + (rev54_3 q lim t k l i fc fw fs ff fk fl fe).length ≤ 9223372036854775807) else false then some (true, AV.agg [iA q, iA lim, AV.sl Tk.imm kF (rev54_2 q lim t k l i fc fw fs ff fk fl fe ++ rev54_3 q lim t k l i fc fw fs ff fk fl fe), iA t, iA k], []) else none else none else none else none else none) (by kernel_rfl) ?_
 unfold vev54_0 vev54_1
 generalize (decide (((rev54_2 q lim t k l i fc fw fs ff fk fl fe).length + (rev54_3 q lim t k l i fc fw fs ff fk fl fe).length) * 72 ≤ 140737488355328)) = c0
 generalize (decide (((List.take i.toNat l).length + (rev54_0 q lim t k l i fc fw fs ff fk fl fe).length) * 72 ≤ 140737488355328)) = c1
 generalize (decide ((rev54_2 q lim t k l i fc fw fs ff fk fl fe).length + (rev54_3 q lim t k l i fc fw fs ff fk fl fe).length ≤ 9223372036854775807)) = c2
 generalize (decide ((List.take i.toNat l).length + (rev54_0 q lim t k l i fc fw fs ff fk fl fe).length ≤ 9223372036854775807)) = c3
 generalize (decide ((List.take i.toNat l).length * 72 ≤ 140737488355328)) = c4
 generalize (decide ((List.take i.toNat l).length ≤ 9223372036854775807)) = c5
 generalize (bnd (rev54_1 q lim t k l i fc fw fs ff fk fl fe) (↑l.length : Int) (↑l.length : Int)) = c6
 generalize (bnd 0 i (↑l.length : Int)) = c7
 cases c7; rfl; cases c4; rfl; cases c5; rfl; cases c1; rfl; cases c3; rfl; cases c6; rfl; cases c0; rfl; cases c2; rfl; rfl
noncomputable def sp54 : Sp
 | [.agg [.int .i64 q, .int .i64 lim, .sl .imm [.int .i64, .int .i64, .int .i64, .int .i64, .int .i64, .int .i64, .sl [.int .i64, .int .i64, .int .i64, .int .i64]] l, .int .i64 t, .int .i64 k], .int .i64 i, .agg [.int .i64 fc, .int .i64 fw, .int .i64 fs, .int .i64 ff, .int .i64 fk, .int .i64 fl, .sl .imm [.int .i64, .int .i64, .int .i64, .int .i64] fe]], [] => spW (vev54_1 q lim t k l i fc fw fs ff fk fl fe) (some ((true, AV.agg [iA q, iA lim, AV.sl Tk.imm kF (vev54_0 q lim t k l i fc fw fs ff fk fl fe), iA t, iA k], [])))
 | _, _ => none
noncomputable def k54 : Gam := spG 54 sp54 k46
theorem k54_ok : GamOK Try.prog k54 := spG_ok k46_ok fun T C r outs hs => by
   unfold sp54 at hs
   split at hs
   ·exact okE k46_ok Try.func54 (fun c _ => LoopsOK.none (fun _ _ => rfl) c) (ev54 _ _ _ _ _ _ _ _ _ _ _ _ _) hs
   ·cases hs
noncomputable def rev14_0 (q lim t k : Int) (l : LL) (c n : Int) : sl46_2 := vev46_0 q lim t k Tk.imm l c
noncomputable def rev14_1 (q lim t k : Int) (l : LL) (c n : Int) : LL := [[iA c, iA (vev45_0 n), iA 0, iA 0, iA 0, iA lim, AV.nil]]
noncomputable def vev14_0 (q lim t k : Int) (l : LL) (c n : Int) : LL := bif bif decide (c < 0) then true else bif decide (c > 2147483647) then true else vev45_1 n != 0 then l else bif decide (rev14_0 q lim t k l c n ≥ 0) then l else bif decide ((↑l.length : Int) ≥ 8) then l else l ++ rev14_1 q lim t k l c n
noncomputable def vev14_1 (q lim t k : Int) (l : LL) (c n : Int) : Int := bif bif decide (c < 0) then true else bif decide (c > 2147483647) then true else vev45_1 n != 0 then 8 else bif decide (rev14_0 q lim t k l c n ≥ 0) then 12 else bif decide ((↑l.length : Int) ≥ 8) then 7 else 0
noncomputable def vev14_2 (q lim t k : Int) (l : LL) (c n : Int) : Bool := bif bif decide (c < 0) then true else bif decide (c > 2147483647) then true else vev45_1 n != 0 then true else bif vev46_1 q lim t k Tk.imm l c then bif decide (rev14_0 q lim t k l c n ≥ 0) then true else bif decide ((↑l.length : Int) ≥ 8) then true else bif bif decide (l.length * 72 ≤ 140737488355328) then decide (l.length ≤ 9223372036854775807) else false then bif bif decide ((l.length + (rev14_1 q lim t k l c n).length) * 72 ≤ 140737488355328) then decide (l.length + (rev14_1 q lim t k l c n).length ≤ 9223372036854775807) else false then true else false else false else false
theorem ev14 (q lim t k : Int) (l : LL) (c n : Int) : eF k54 noLsp 14 Try.f14 [.agg [iA q, iA lim, .sl .imm kF l, iA t, iA k], iA c, iA n] [] = bif vev14_2 q lim t k l c n then some (true, AV.tup [AV.agg [iA q, iA lim, AV.sl Tk.imm kF (vev14_0 q lim t k l c n), iA t, iA k], iA (vev14_1 q lim t k l c n)], []) else none := by
 refine Eq.trans (b := bif bif decide (c < 0) then true else bif bif false then true else decide (c > 2147483647) then true else true then bif bif decide (c < 0) then true else bif bif false then true else decide (c > 2147483647) then true else bif false then true else vev45_1 n != 0 then some (true, AV.tup [AV.agg [iA q, iA lim, AV.sl Tk.imm kF l, iA t, iA k], iA 8], []) else bif vev46_1 q lim t k Tk.imm l c then bif decide (rev14_0 q lim t k l c n ≥ 0) then some (true, AV.tup [AV.agg [iA q, iA lim, AV.sl Tk.imm kF l, iA t, iA k], iA 12], []) else bif decide ((↑l.length : Int) ≥ 8) then some (true, AV.tup [AV.agg [iA q, iA lim, AV.sl Tk.imm kF l, iA t, iA k], iA 7], []) else bif bif decide (l.length * 72 ≤ 140737488355328) then decide (l.length ≤ 9223372036854775807) else false then bif bif decide ((l.length + (rev14_1 q lim t k l c n).length) * 72 ≤ 140737488355328) then decide (l.length + (rev14_1 q lim t k l c n).length ≤ 9223372036854775807) else false then some (true, AV.tup [AV.agg [iA q, iA lim, AV.sl Tk.imm kF (l ++ rev14_1 q lim t k l c n), iA t, iA k], iA 0], []) else none else none else none else none) (by kernel_rfl) ?_
 unfold vev14_0 vev14_1 vev14_2
 generalize (decide ((l.length + (rev14_1 q lim t k l c n).length) * 72 ≤ 140737488355328)) = c0
 generalize (decide (l.length + (rev14_1 q lim t k l c n).length ≤ 9223372036854775807)) = c1
 generalize (decide (l.length * 72 ≤ 140737488355328)) = c2
 generalize (decide (rev14_0 q lim t k l c n ≥ 0)) = c3
 generalize (decide ((↑l.length : Int) ≥ 8)) = c4
 generalize (decide (l.length ≤ 9223372036854775807)) = c5
 generalize (decide (c > 2147483647)) = c6
 generalize (decide (c < 0)) = c7
 generalize (vev45_1 n != 0) = c8
 generalize (vev46_1 _ _ _ _ _ _ _) = c9
 cases c7; cases c6; cases c8; cases c9; rfl; cases c3; cases c4; cases c2; rfl; cases c5; rfl; cases c0; rfl; cases c1; rfl; rfl; rfl; rfl; rfl; rfl
 rfl
noncomputable def sp14 : Sp
 | [.agg [.int .i64 q, .int .i64 lim, .sl .imm [.int .i64, .int .i64, .int .i64, .int .i64, .int .i64, .int .i64, .sl [.int .i64, .int .i64, .int .i64, .int .i64]] l, .int .i64 t, .int .i64 k], .int .i64 c, .int .i64 n], [] => spW (vev14_2 q lim t k l c n) (some ((true, AV.tup [AV.agg [iA q, iA lim, AV.sl Tk.imm kF (vev14_0 q lim t k l c n), iA t, iA k], iA (vev14_1 q lim t k l c n)], [])))
 | _, _ => none
noncomputable def k14 : Gam := spG 14 sp14 k54
theorem k14_ok : GamOK Try.prog k14 := spG_ok k54_ok fun T C r outs hs => by
   unfold sp14 at hs
   split at hs
   ·exact okE k54_ok Try.func14 (fun c _ => LoopsOK.none (fun _ _ => rfl) c) (ev14 _ _ _ _ _ _ _) hs
   ·cases hs
noncomputable def rev28_0 (q lim t k : Int) (l : LL) (c : Int) : sl46_2 := vev46_0 q lim t k Tk.imm l c
noncomputable def rev28_1 (q lim t k : Int) (l : LL) (c : Int) : LL := List.take (Int.toNat (rev28_0 q lim t k l c)) l
noncomputable def rev28_2 (q lim t k : Int) (l : LL) (c : Int) : Int := IntKind.i64.wrap (rev28_0 q lim t k l c + 1)
noncomputable def rev28_3 (q lim t k : Int) (l : LL) (c : Int) : LL := List.drop (rev28_2 q lim t k l c).toNat l
noncomputable def vev28_0 (q lim t k : Int) (l : LL) (c : Int) : LL := bif decide (rev28_0 q lim t k l c < 0) then l else rev28_1 q lim t k l c ++ rev28_3 q lim t k l c
noncomputable def vev28_1 (q lim t k : Int) (l : LL) (c : Int) : Int := bif decide (rev28_0 q lim t k l c < 0) then 6 else 0
noncomputable def vev28_2 (q lim t k : Int) (l : LL) (c : Int) : Bool := bif vev46_1 q lim t k Tk.imm l c then bif decide (rev28_0 q lim t k l c < 0) then true else bif bnd 0 (rev28_0 q lim t k l c) (↑l.length : Int) then bif bif decide ((rev28_1 q lim t k l c).length * 72 ≤ 140737488355328) then decide ((rev28_1 q lim t k l c).length ≤ 9223372036854775807) else false then bif bnd (rev28_2 q lim t k l c) (↑l.length : Int) (↑l.length : Int) then bif bif decide (((rev28_1 q lim t k l c).length + (rev28_3 q lim t k l c).length) * 72 ≤ 140737488355328) then decide ((rev28_1 q lim t k l c).length + (rev28_3 q lim t k l c).length ≤ 9223372036854775807) else false then true else false else false else false else false else false
theorem ev28 (q lim t k : Int) (l : LL) (c : Int) : eF k14 noLsp 28 Try.f28 [.agg [iA q, iA lim, .sl .imm kF l, iA t, iA k], iA c] [] = bif vev28_2 q lim t k l c then some (true, AV.tup [AV.agg [iA q, iA lim, AV.sl Tk.imm kF (vev28_0 q lim t k l c), iA t, iA k], iA (vev28_1 q lim t k l c)], []) else none := by
 refine Eq.trans (b := bif vev46_1 q lim t k Tk.imm l c then bif decide (rev28_0 q lim t k l c < 0) then some (true, AV.tup [AV.agg [iA q, iA lim, AV.sl Tk.imm kF l, iA t, iA k], iA 6], []) else bif bnd 0 (rev28_0 q lim t k l c) (↑l.length : Int) then bif bif decide ((rev28_1 q lim t k l c).length * 72 ≤ 140737488355328) then decide ((rev28_1 q lim t k l c).length ≤ 9223372036854775807) else false then bif bnd (rev28_2 q lim t k l c) (↑l.length : Int) (↑l.length : Int) then bif bif decide (((rev28_1 q lim t k l c).length + (rev28_3 q lim t k l c).length) * 72 ≤ 140737488355328) then decide ((rev28_1 q lim t k l c).length + (rev28_3 q lim t k l c).length ≤ 9223372036854775807) else false then some (true, AV.tup [AV.agg [iA q, iA lim, AV.sl Tk.imm kF (rev28_1 q lim t k l c ++ rev28_3 q lim t k l c), iA t, iA k], iA 0], []) else none else none else none else none else none) (by kernel_rfl) ?_
 unfold vev28_0 vev28_1 vev28_2
 generalize (decide (((rev28_1 q lim t k l c).length + (rev28_3 q lim t k l c).length) * 72 ≤ 140737488355328)) = c0
 generalize (decide ((rev28_1 q lim t k l c).length + (rev28_3 q lim t k l c).length ≤ 9223372036854775807)) = c1
 generalize (decide ((rev28_1 q lim t k l c).length * 72 ≤ 140737488355328)) = c2
 generalize (decide ((rev28_1 q lim t k l c).length ≤ 9223372036854775807)) = c3
 generalize (decide (rev28_0 q lim t k l c < 0)) = c4
 generalize (bnd (rev28_2 q lim t k l c) (↑l.length : Int) (↑l.length : Int)) = c5
 generalize (bnd 0 (rev28_0 q lim t k l c) (↑l.length : Int)) = c6
 generalize (vev46_1 _ _ _ _ _ _ _) = c7
 cases c7; rfl; cases c4; cases c6; rfl; cases c2; rfl; cases c3; rfl; cases c5; rfl; cases c0; rfl; cases c1; rfl; rfl; rfl
noncomputable def sp28 : Sp
 | [.agg [.int .i64 q, .int .i64 lim, .sl .imm [.int .i64, .int .i64, .int .i64, .int .i64, .int .i64, .int .i64, .sl [.int .i64, .int .i64, .int .i64, .int .i64]] l, .int .i64 t, .int .i64 k], .int .i64 c], [] => spW (vev28_2 q lim t k l c) (some ((true, AV.tup [AV.agg [iA q, iA lim, AV.sl Tk.imm kF (vev28_0 q lim t k l c), iA t, iA k], iA (vev28_1 q lim t k l c)], [])))
 | _, _ => none
noncomputable def k28 : Gam := spG 28 sp28 k14
theorem k28_ok : GamOK Try.prog k28 := spG_ok k14_ok fun T C r outs hs => by
   unfold sp28 at hs
   split at hs
   ·exact okE k14_ok Try.func28 (fun c _ => LoopsOK.none (fun _ _ => rfl) c) (ev28 _ _ _ _ _ _) hs
   ·cases hs
noncomputable def rn52_3_0 (a b c d : Int) (h : Tk) (e : LL) (f g : Int) : Int := intOf ((e.getD b.toNat []).getD (0 + 1 + 1 + 1 + 1 + 1) AV.junk)
noncomputable def rn52_3_1 (a b c d : Int) (h : Tk) (e : LL) (f g : Int) : LL := elsO ((e.getD b.toNat []).getD (0 + 1 + 1 + 1 + 1 + 1 + 1) AV.junk)
noncomputable def go52_3 (a b c d : Int) (h : Tk) (e : LL) (f g : Int) : Bool := bif decide (b < (↑e.length : Int)) then bif decide (0 ≤ b) && decide (b < (↑e.length : Int)) then vev91_1 (rn52_3_0 a b c d h e f g) Tk.imm (rn52_3_1 a b c d h e f g) else false else false
noncomputable def nx52_3_0 (a b c d : Int) (h : Tk) (e : LL) (f g : Int) : Int := IntKind.i64.wrap (a + vev91_0 (rn52_3_0 a b c d h e f g) Tk.imm (rn52_3_1 a b c d h e f g))
noncomputable def nx52_3_1 (a b c d : Int) (h : Tk) (e : LL) (f g : Int) : Int := IntKind.i64.wrap (b + 1)
noncomputable def xc52_3_0 (a b c d : Int) (h : Tk) (e : LL) (f g : Int) : Bool := bif decide (b < (↑e.length : Int)) then false else true
theorem rd52_3 (rest : Lsp) (a b c d : Int) (i : Tk) (e : LL) (f g : Int) : rV k28 rest 52 0 Try.f52 3 [1, 3, 4] [0] [3] [] [AV.hp 0 0, iA a, iA b] [Blk.var [iA c, iA d, AV.sl i kF e, iA f, iA g]] = bif go52_3 a b c d i e f g then some (Ex.norm, [AV.hp 0 0, iA (nx52_3_0 a b c d i e f g), iA (nx52_3_1 a b c d i e f g)], [Blk.var [iA c, iA d, AV.sl i kF e, iA f, iA g]]) else bif xc52_3_0 a b c d i e f g then some (Ex.exit 0, [iA a], []) else none := by
 refine Eq.trans (b := bif decide (b < (↑e.length : Int)) then bif decide (0 ≤ b) && decide (b < (↑e.length : Int)) then bif vev91_1 (rn52_3_0 a b c d i e f g) Tk.imm (rn52_3_1 a b c d i e f g) then some (Ex.norm, [AV.hp 0 0, iA (IntKind.i64.wrap (a + vev91_0 (rn52_3_0 a b c d i e f g) Tk.imm (rn52_3_1 a b c d i e f g))), iA (IntKind.i64.wrap (b + 1))], [Blk.var [iA c, iA d, AV.sl i kF e, iA f, iA g]]) else none else none else some (Ex.exit 0, [iA a], [])) (by kernel_rfl) ?_
 unfold go52_3 nx52_3_0 nx52_3_1 xc52_3_0
 generalize (decide (0 ≤ b) && decide (b < (↑e.length : Int))) = c0
 generalize (decide (b < (↑e.length : Int))) = c1
 generalize (vev91_1 _ _ _) = c2
 cases c1; rfl; cases c0; rfl; cases c2; rfl; rfl
abbrev pl52_3 : Type := Int × Int × Tk × LL × Int × Int
abbrev sl52_3 : Type := Int × Int
noncomputable def vt52_3 (a : pl52_3 × sl52_3) : List AV := [AV.hp 0 0, iA a.2.1, iA a.2.2]
noncomputable def vc52_3 (a : pl52_3 × sl52_3) : List Blk := [Blk.var [iA a.1.1, iA a.1.2.1, AV.sl a.1.2.2.1 kF a.1.2.2.2.1, iA a.1.2.2.2.2.1, iA a.1.2.2.2.2.2]]
noncomputable def de52_3 (vt : List AV) (vc : List Blk) : Option (pl52_3 × sl52_3) :=
 match vt with
 | [qa0, qa1, qa2] => (match vc with
 | [qb0] => (match qa0 with
 | AV.hp (0) (0) => (match qa1 with
 | .int .i64 t3 => (match qa2 with
 | .int .i64 t4 => (match qb0 with
 | .var [.int .i64 b0_0, .int .i64 b0_1, .sl b0_2k [.int .i64, .int .i64, .int .i64, .int .i64, .int .i64, .int .i64, .sl [.int .i64, .int .i64, .int .i64, .int .i64]] b0_2, .int .i64 b0_3, .int .i64 b0_4] => (some ((b0_0, b0_1, b0_2k, b0_2, b0_3, b0_4), (t3, t4)))
 | _ => none)
 | _ => none)
 | _ => none)
 | _ => none)
 | _ => none)
 | _ => none
theorem de52_3_ok (vt : List AV) (vc : List Blk) (a : pl52_3 × sl52_3) (h : de52_3 vt vc = some a) : vt = vt52_3 a ∧ vc = vc52_3 a := by
 unfold de52_3 at h
 iterate 6 (split at h; rotate_left; · cases h)
 injection h with h; subst h; exact ⟨rfl, rfl⟩
noncomputable def g52_3 (p : pl52_3) (s : sl52_3) : Bool := go52_3 s.1 s.2 p.1 p.2.1 p.2.2.1 p.2.2.2.1 p.2.2.2.2.1 p.2.2.2.2.2
noncomputable def n52_3 (p : pl52_3) (s : sl52_3) : sl52_3 := (nx52_3_0 s.1 s.2 p.1 p.2.1 p.2.2.1 p.2.2.2.1 p.2.2.2.2.1 p.2.2.2.2.2, nx52_3_1 s.1 s.2 p.1 p.2.1 p.2.2.1 p.2.2.2.1 p.2.2.2.2.1 p.2.2.2.2.2)
noncomputable def y52_3 (p : pl52_3) (s : sl52_3) : List (Bool × Out) := []
noncomputable def z52_3 (p : pl52_3) (s : sl52_3) : Bool := xc52_3_0 s.1 s.2 p.1 p.2.1 p.2.2.1 p.2.2.2.1 p.2.2.2.2.1 p.2.2.2.2.2
noncomputable def d52_3 (p : pl52_3) (s : sl52_3) : Out := (Ex.exit 0, [iA s.1], [])
noncomputable def ls52_3 := lspOf [1, 3, 4] [0] [3] [] Try.f52.ntmps (0 + tab.nid 52) de52_3 (spI g52_3 n52_3 y52_3 z52_3 d52_3)
theorem lo52_3 (rest : Lsp) : lO k28 (selL 3 ls52_3 rest) 52 0 Try.f52 3 := LoopOK1.iter (i := 3) (by kernel_rfl) [1, 3, 4] [0] [3] [] vt52_3 vc52_3 de52_3 g52_3 n52_3 y52_3 z52_3 d52_3 (fun _ => rfl) de52_3_ok (fun p s => rd52_3 (selL 3 ls52_3 rest) (s.1) (s.2) (p.1) (p.2.1) (p.2.2.1) (p.2.2.2.1) (p.2.2.2.2.1) (p.2.2.2.2.2)) (fun _ _ => rfl)
noncomputable def lsp52 : Lsp := (selL 3 ls52_3 noLsp)
theorem loops52 : ∀ c, Try.f52.body = some c → lsO k28 lsp52 52 0 Try.f52 c := loops_of [3] (by kernel_rfl) (by kernel_rfl) (fun i hi => by simp only [List.mem_cons, List.not_mem_nil, or_false] at hi; subst hi; exact lo52_3 noLsp)
noncomputable def rev52_0 (q lim t k : Int) (tk : Tk) (l : LL) : sl52_3 := finL (g52_3 (q, lim, tk, l, t, k)) (n52_3 (q, lim, tk, l, t, k)) (0, 0)
noncomputable def vev52_0 (q lim t k : Int) (tk : Tk) (l : LL) : Int := (rev52_0 q lim t k tk l).fst
noncomputable def vev52_1 (q lim t k : Int) (tk : Tk) (l : LL) : Bool := bif (spI g52_3 n52_3 y52_3 z52_3 d52_3 ((q, lim, tk, l, t, k), 0, 0)).fst then true else false
theorem ev52 (q lim t k : Int) (tk : Tk) (l : LL) : eF k28 lsp52 52 Try.f52 [.agg [iA q, iA lim, .sl tk kF l, iA t, iA k]] [] = bif vev52_1 q lim t k tk l then some (true, iA (vev52_0 q lim t k tk l), []) else none := by
 refine Eq.trans (b := bif (spI g52_3 n52_3 y52_3 z52_3 d52_3 ((q, lim, tk, l, t, k), 0, 0)).fst then some (true, iA (rev52_0 q lim t k tk l).fst, []) else none) (by kernel_rfl) ?_
 unfold vev52_0 vev52_1
 generalize (spI g52_3 _ _ _ _ _).fst = c0
 cases c0
 ·skip
  rfl
 ·skip
  rfl
noncomputable def sp52 : Sp
 | [.agg [.int .i64 q, .int .i64 lim, .sl tk [.int .i64, .int .i64, .int .i64, .int .i64, .int .i64, .int .i64, .sl [.int .i64, .int .i64, .int .i64, .int .i64]] l, .int .i64 t, .int .i64 k]], [] => spW (vev52_1 q lim t k tk l) (some ((true, iA (vev52_0 q lim t k tk l), [])))
 | _, _ => none
noncomputable def k52 : Gam := spG 52 sp52 k28
theorem k52_ok : GamOK Try.prog k52 := spG_ok k28_ok fun T C r outs hs => by
   unfold sp52 at hs
   split at hs
   ·exact okE k28_ok Try.func52 loops52 (ev52 _ _ _ _ _ _) hs
   ·cases hs
noncomputable def rev16_0 (q lim t k : Int) (l : LL) (c i n z : Int) : sl46_2 := vev46_0 q lim t k Tk.imm l c
noncomputable def rev16_1 (q lim t k : Int) (l : LL) (c i n z : Int) : Int := intOf ((l.getD (Int.toNat (rev16_0 q lim t k l c i n z)) []).getD (0 + 1 + 1 + 1 + 1 + 1) AV.junk)
noncomputable def rev16_2 (q lim t k : Int) (l : LL) (c i n z : Int) : LL := elsO ((l.getD (Int.toNat (rev16_0 q lim t k l c i n z)) []).getD (0 + 1 + 1 + 1 + 1 + 1 + 1) AV.junk)
noncomputable def rev16_3 (q lim t k : Int) (l : LL) (c i n z : Int) : Int := vev51_1 (rev16_1 q lim t k l c i n z) (rev16_2 q lim t k l c i n z) i n z
noncomputable def rev16_4 (q lim t k : Int) (l : LL) (c i n z : Int) : Int := IntKind.i64.wrap (IntKind.i64.wrap (1099511627776 - k) - vev52_0 q lim t k Tk.imm l)
noncomputable def rev16_5 (q lim t k : Int) (l : LL) (c i n z : Int) : Int := intOf ((l.getD (Int.toNat (rev16_0 q lim t k l c i n z)) []).getD 0 AV.junk)
noncomputable def rev16_6 (q lim t k : Int) (l : LL) (c i n z : Int) : Int := intOf ((l.getD (Int.toNat (rev16_0 q lim t k l c i n z)) []).getD (0 + 1) AV.junk)
noncomputable def rev16_7 (q lim t k : Int) (l : LL) (c i n z : Int) : Int := intOf ((l.getD (Int.toNat (rev16_0 q lim t k l c i n z)) []).getD (0 + 1 + 1) AV.junk)
noncomputable def rev16_8 (q lim t k : Int) (l : LL) (c i n z : Int) : Int := intOf ((l.getD (Int.toNat (rev16_0 q lim t k l c i n z)) []).getD (0 + 1 + 1 + 1) AV.junk)
noncomputable def rev16_9 (q lim t k : Int) (l : LL) (c i n z : Int) : Int := intOf ((l.getD (Int.toNat (rev16_0 q lim t k l c i n z)) []).getD (0 + 1 + 1 + 1 + 1) AV.junk)
noncomputable def rev16_10 (q lim t k : Int) (l : LL) (c i n z : Int) : Int := vev53_0 t (rev16_6 q lim t k l c i n z) (rev16_7 q lim t k l c i n z) (rev16_8 q lim t k l c i n z) (rev16_9 q lim t k l c i n z)
noncomputable def rev16_11 (q lim t k : Int) (l : LL) (c i n z : Int) : LL := vev51_0 (rev16_1 q lim t k l c i n z) (rev16_2 q lim t k l c i n z) i n z
noncomputable def vev16_0 (q lim t k : Int) (l : LL) (c i n z : Int) : LL := bif decide (rev16_0 q lim t k l c i n z < 0) then l else bif rev16_3 q lim t k l c i n z != 0 then l else bif decide (z > rev16_4 q lim t k l c i n z) then l else bif (↑(rev16_2 q lim t k l c i n z).length : Int) == 0 then vev54_0 q lim t k l (rev16_0 q lim t k l c i n z) (rev16_5 q lim t k l c i n z) (rev16_6 q lim t k l c i n z) (rev16_10 q lim t k l c i n z) (rev16_8 q lim t k l c i n z) (rev16_9 q lim t k l c i n z) (rev16_1 q lim t k l c i n z) (rev16_11 q lim t k l c i n z) else vev54_0 q lim t k l (rev16_0 q lim t k l c i n z) (rev16_5 q lim t k l c i n z) (rev16_6 q lim t k l c i n z) (rev16_7 q lim t k l c i n z) (rev16_8 q lim t k l c i n z) (rev16_9 q lim t k l c i n z) (rev16_1 q lim t k l c i n z) (rev16_11 q lim t k l c i n z)
noncomputable def vev16_1 (q lim t k : Int) (l : LL) (c i n z : Int) : Int := bif decide (rev16_0 q lim t k l c i n z < 0) then 6 else bif rev16_3 q lim t k l c i n z != 0 then rev16_3 q lim t k l c i n z else bif decide (z > rev16_4 q lim t k l c i n z) then 7 else 0
noncomputable def vev16_2 (q lim t k : Int) (l : LL) (c i n z : Int) : Bool := bif vev46_1 q lim t k Tk.imm l c then bif decide (rev16_0 q lim t k l c i n z < 0) then true else bif decide (0 ≤ rev16_0 q lim t k l c i n z) && decide (rev16_0 q lim t k l c i n z < (↑l.length : Int)) then bif vev51_2 (rev16_1 q lim t k l c i n z) (rev16_2 q lim t k l c i n z) i n z then bif rev16_3 q lim t k l c i n z != 0 then true else bif vev52_1 q lim t k Tk.imm l then bif decide (z > rev16_4 q lim t k l c i n z) then true else bif (↑(rev16_2 q lim t k l c i n z).length : Int) == 0 then bif vev54_1 q lim t k l (rev16_0 q lim t k l c i n z) (rev16_5 q lim t k l c i n z) (rev16_6 q lim t k l c i n z) (rev16_10 q lim t k l c i n z) (rev16_8 q lim t k l c i n z) (rev16_9 q lim t k l c i n z) (rev16_1 q lim t k l c i n z) (rev16_11 q lim t k l c i n z) then true else false else bif vev54_1 q lim t k l (rev16_0 q lim t k l c i n z) (rev16_5 q lim t k l c i n z) (rev16_6 q lim t k l c i n z) (rev16_7 q lim t k l c i n z) (rev16_8 q lim t k l c i n z) (rev16_9 q lim t k l c i n z) (rev16_1 q lim t k l c i n z) (rev16_11 q lim t k l c i n z) then true else false else false else false else false else false
theorem ev16 (q lim t k : Int) (l : LL) (c i n z : Int) : eF k52 noLsp 16 Try.f16 [.agg [iA q, iA lim, .sl .imm kF l, iA t, iA k], iA c, iA i, iA n, iA z] [] = bif vev16_2 q lim t k l c i n z then some (true, AV.tup [AV.agg [iA q, iA lim, AV.sl Tk.imm kF (vev16_0 q lim t k l c i n z), iA t, iA k], iA (vev16_1 q lim t k l c i n z)], []) else none := by
 refine Eq.trans (b := bif vev46_1 q lim t k Tk.imm l c then bif decide (rev16_0 q lim t k l c i n z < 0) then some (true, AV.tup [AV.agg [iA q, iA lim, AV.sl Tk.imm kF l, iA t, iA k], iA 6], []) else bif decide (0 ≤ rev16_0 q lim t k l c i n z) && decide (rev16_0 q lim t k l c i n z < (↑l.length : Int)) then bif vev51_2 (rev16_1 q lim t k l c i n z) (rev16_2 q lim t k l c i n z) i n z then bif rev16_3 q lim t k l c i n z != 0 then some (true, AV.tup [AV.agg [iA q, iA lim, AV.sl Tk.imm kF l, iA t, iA k], iA (rev16_3 q lim t k l c i n z)], []) else bif vev52_1 q lim t k Tk.imm l then bif decide (z > rev16_4 q lim t k l c i n z) then some (true, AV.tup [AV.agg [iA q, iA lim, AV.sl Tk.imm kF l, iA t, iA k], iA 7], []) else bif (↑(rev16_2 q lim t k l c i n z).length : Int) == 0 then bif vev54_1 q lim t k l (rev16_0 q lim t k l c i n z) (rev16_5 q lim t k l c i n z) (rev16_6 q lim t k l c i n z) (rev16_10 q lim t k l c i n z) (rev16_8 q lim t k l c i n z) (rev16_9 q lim t k l c i n z) (rev16_1 q lim t k l c i n z) (rev16_11 q lim t k l c i n z) then some (true, AV.tup [AV.agg [iA q, iA lim, AV.sl Tk.imm kF (vev54_0 q lim t k l (rev16_0 q lim t k l c i n z) (rev16_5 q lim t k l c i n z) (rev16_6 q lim t k l c i n z) (rev16_10 q lim t k l c i n z) (rev16_8 q lim t k l c i n z) (rev16_9 q lim t k l c i n z) (rev16_1 q lim t k l c i n z) (rev16_11 q lim t k l c i n z)), iA t, iA k], iA 0], []) else none else bif vev54_1 q lim t k l (rev16_0 q lim t k l c i n z) (rev16_5 q lim t k l c i n z) (rev16_6 q lim t k l c i n z) (rev16_7 q lim t k l c i n z) (rev16_8 q lim t k l c i n z) (rev16_9 q lim t k l c i n z) (rev16_1 q lim t k l c i n z) (rev16_11 q lim t k l c i n z) then some (true, AV.tup [AV.agg [iA q, iA lim, AV.sl Tk.imm kF (vev54_0 q lim t k l (rev16_0 q lim t k l c i n z) (rev16_5 q lim t k l c i n z) (rev16_6 q lim t k l c i n z) (rev16_7 q lim t k l c i n z) (rev16_8 q lim t k l c i n z) (rev16_9 q lim t k l c i n z) (rev16_1 q lim t k l c i n z) (rev16_11 q lim t k l c i n z)), iA t, iA k], iA 0], []) else none else none else none else none else none) (by kernel_rfl) ?_
 unfold vev16_0 vev16_1 vev16_2
 generalize (vev54_1 q lim t k l (rev16_0 q lim t k l c i n z) (rev16_5 q lim t k l c i n z) (rev16_6 q lim t k l c i n z) (rev16_10 q lim t k l c i n z) (rev16_8 q lim t k l c i n z) (rev16_9 q lim t k l c i n z) (rev16_1 q lim t k l c i n z) (rev16_11 q lim t k l c i n z)) = c0
 generalize (vev54_1 q lim t k l (rev16_0 q lim t k l c i n z) (rev16_5 q lim t k l c i n z) (rev16_6 q lim t k l c i n z) (rev16_7 q lim t k l c i n z) (rev16_8 q lim t k l c i n z) (rev16_9 q lim t k l c i n z) (rev16_1 q lim t k l c i n z) (rev16_11 q lim t k l c i n z)) = c1
 generalize (decide (0 ≤ rev16_0 q lim t k l c i n z) && decide (rev16_0 q lim t k l c i n z < (↑l.length : Int))) = c2
 generalize (decide (rev16_0 q lim t k l c i n z < 0)) = c3
 generalize (decide (z > rev16_4 q lim t k l c i n z)) = c4
 generalize ((↑(rev16_2 q lim t k l c i n z).length : Int) == 0) = c5
 generalize (vev51_2 _ _ _ _ _) = c6
 generalize (rev16_3 q lim t k l c i n z != 0) = c7
 generalize (vev46_1 _ _ _ _ _ _ _) = c8
 generalize (vev52_1 _ _ _ _ _ _) = c9
 cases c8; rfl; cases c3; cases c2; rfl; cases c6; rfl; cases c7; cases c9; rfl; cases c4; cases c5; cases c1; rfl; rfl; cases c0; rfl; rfl; rfl; rfl
 rfl
noncomputable def sp16 : Sp
 | [.agg [.int .i64 q, .int .i64 lim, .sl .imm [.int .i64, .int .i64, .int .i64, .int .i64, .int .i64, .int .i64, .sl [.int .i64, .int .i64, .int .i64, .int .i64]] l, .int .i64 t, .int .i64 k], .int .i64 c, .int .i64 i, .int .i64 n, .int .i64 z], [] => spW (vev16_2 q lim t k l c i n z) (some ((true, AV.tup [AV.agg [iA q, iA lim, AV.sl Tk.imm kF (vev16_0 q lim t k l c i n z), iA t, iA k], iA (vev16_1 q lim t k l c i n z)], [])))
 | _, _ => none
noncomputable def k16 : Gam := spG 16 sp16 k52
theorem k16_ok : GamOK Try.prog k16 := spG_ok k52_ok fun T C r outs hs => by
   unfold sp16 at hs
   split at hs
   ·exact okE k52_ok Try.func16 (fun c _ => LoopsOK.none (fun _ _ => rfl) c) (ev16 _ _ _ _ _ _ _ _ _) hs
   ·cases hs
noncomputable def rev30_0 (q lim t k : Int) (l : LL) (c i : Int) : sl46_2 := vev46_0 q lim t k Tk.imm l c
noncomputable def rev30_1 (q lim t k : Int) (l : LL) (c i : Int) : Int := intOf ((l.getD (Int.toNat (rev30_0 q lim t k l c i)) []).getD (0 + 1 + 1 + 1 + 1 + 1) AV.junk)
noncomputable def rev30_2 (q lim t k : Int) (l : LL) (c i : Int) : LL := elsO ((l.getD (Int.toNat (rev30_0 q lim t k l c i)) []).getD (0 + 1 + 1 + 1 + 1 + 1 + 1) AV.junk)
noncomputable def rev30_3 (q lim t k : Int) (l : LL) (c i : Int) : Int := intOf ((l.getD (Int.toNat (rev30_0 q lim t k l c i)) []).getD 0 AV.junk)
noncomputable def rev30_4 (q lim t k : Int) (l : LL) (c i : Int) : Int := intOf ((l.getD (Int.toNat (rev30_0 q lim t k l c i)) []).getD (0 + 1) AV.junk)
noncomputable def rev30_5 (q lim t k : Int) (l : LL) (c i : Int) : Int := intOf ((l.getD (Int.toNat (rev30_0 q lim t k l c i)) []).getD (0 + 1 + 1) AV.junk)
noncomputable def rev30_6 (q lim t k : Int) (l : LL) (c i : Int) : Int := intOf ((l.getD (Int.toNat (rev30_0 q lim t k l c i)) []).getD (0 + 1 + 1 + 1) AV.junk)
noncomputable def rev30_7 (q lim t k : Int) (l : LL) (c i : Int) : Int := intOf ((l.getD (Int.toNat (rev30_0 q lim t k l c i)) []).getD (0 + 1 + 1 + 1 + 1) AV.junk)
noncomputable def rev30_8 (q lim t k : Int) (l : LL) (c i : Int) : LL := vev65_0 (rev30_1 q lim t k l c i) (rev30_2 q lim t k l c i) i
noncomputable def vev30_0 (q lim t k : Int) (l : LL) (c i : Int) : LL := bif decide (rev30_0 q lim t k l c i < 0) then l else bif !vev65_1 (rev30_1 q lim t k l c i) (rev30_2 q lim t k l c i) i then l else vev54_0 q lim t k l (rev30_0 q lim t k l c i) (rev30_3 q lim t k l c i) (rev30_4 q lim t k l c i) (rev30_5 q lim t k l c i) (rev30_6 q lim t k l c i) (rev30_7 q lim t k l c i) (rev30_1 q lim t k l c i) (rev30_8 q lim t k l c i)
noncomputable def vev30_1 (q lim t k : Int) (l : LL) (c i : Int) : Int := bif decide (rev30_0 q lim t k l c i < 0) then 6 else bif !vev65_1 (rev30_1 q lim t k l c i) (rev30_2 q lim t k l c i) i then 6 else 0
noncomputable def vev30_2 (q lim t k : Int) (l : LL) (c i : Int) : Bool := bif vev46_1 q lim t k Tk.imm l c then bif decide (rev30_0 q lim t k l c i < 0) then true else bif decide (0 ≤ rev30_0 q lim t k l c i) && decide (rev30_0 q lim t k l c i < (↑l.length : Int)) then bif vev65_2 (rev30_1 q lim t k l c i) (rev30_2 q lim t k l c i) i then bif !vev65_1 (rev30_1 q lim t k l c i) (rev30_2 q lim t k l c i) i then true else bif vev54_1 q lim t k l (rev30_0 q lim t k l c i) (rev30_3 q lim t k l c i) (rev30_4 q lim t k l c i) (rev30_5 q lim t k l c i) (rev30_6 q lim t k l c i) (rev30_7 q lim t k l c i) (rev30_1 q lim t k l c i) (rev30_8 q lim t k l c i) then true else false else false else false else false
theorem ev30 (q lim t k : Int) (l : LL) (c i : Int) : eF k16 noLsp 30 Try.f30 [.agg [iA q, iA lim, .sl .imm kF l, iA t, iA k], iA c, iA i] [] = bif vev30_2 q lim t k l c i then some (true, AV.tup [AV.agg [iA q, iA lim, AV.sl Tk.imm kF (vev30_0 q lim t k l c i), iA t, iA k], iA (vev30_1 q lim t k l c i)], []) else none := by
 refine Eq.trans (b := bif vev46_1 q lim t k Tk.imm l c then bif decide (rev30_0 q lim t k l c i < 0) then some (true, AV.tup [AV.agg [iA q, iA lim, AV.sl Tk.imm kF l, iA t, iA k], iA 6], []) else bif decide (0 ≤ rev30_0 q lim t k l c i) && decide (rev30_0 q lim t k l c i < (↑l.length : Int)) then bif vev65_2 (rev30_1 q lim t k l c i) (rev30_2 q lim t k l c i) i then bif !vev65_1 (rev30_1 q lim t k l c i) (rev30_2 q lim t k l c i) i then some (true, AV.tup [AV.agg [iA q, iA lim, AV.sl Tk.imm kF l, iA t, iA k], iA 6], []) else bif vev54_1 q lim t k l (rev30_0 q lim t k l c i) (rev30_3 q lim t k l c i) (rev30_4 q lim t k l c i) (rev30_5 q lim t k l c i) (rev30_6 q lim t k l c i) (rev30_7 q lim t k l c i) (rev30_1 q lim t k l c i) (rev30_8 q lim t k l c i) then some (true, AV.tup [AV.agg [iA q, iA lim, AV.sl Tk.imm kF (vev54_0 q lim t k l (rev30_0 q lim t k l c i) (rev30_3 q lim t k l c i) (rev30_4 q lim t k l c i) (rev30_5 q lim t k l c i) (rev30_6 q lim t k l c i) (rev30_7 q lim t k l c i) (rev30_1 q lim t k l c i) (rev30_8 q lim t k l c i)), iA t, iA k], iA 0], []) else none else none else none else none) (by kernel_rfl) ?_
 unfold vev30_0 vev30_1 vev30_2
 generalize (vev54_1 _ _ _ _ _ _ _ _ _ _ _ _ _) = c0
 generalize (decide (0 ≤ rev30_0 q lim t k l c i) && decide (rev30_0 q lim t k l c i < (↑l.length : Int))) = c1
 generalize (decide (rev30_0 q lim t k l c i < 0)) = c2
 generalize (!vev65_1 _ _ _) = c3
 generalize (vev65_2 _ _ _) = c4
 generalize (vev46_1 _ _ _ _ _ _ _) = c5
 cases c5; rfl; cases c2; cases c1; rfl; cases c4; rfl; cases c3; cases c0; rfl; rfl; rfl; rfl
noncomputable def sp30 : Sp
 | [.agg [.int .i64 q, .int .i64 lim, .sl .imm [.int .i64, .int .i64, .int .i64, .int .i64, .int .i64, .int .i64, .sl [.int .i64, .int .i64, .int .i64, .int .i64]] l, .int .i64 t, .int .i64 k], .int .i64 c, .int .i64 i], [] => spW (vev30_2 q lim t k l c i) (some ((true, AV.tup [AV.agg [iA q, iA lim, AV.sl Tk.imm kF (vev30_0 q lim t k l c i), iA t, iA k], iA (vev30_1 q lim t k l c i)], [])))
 | _, _ => none
noncomputable def k30 : Gam := spG 30 sp30 k16
theorem k30_ok : GamOK Try.prog k30 := spG_ok k16_ok fun T C r outs hs => by
   unfold sp30 at hs
   split at hs
   ·exact okE k16_ok Try.func30 (fun c _ => LoopsOK.none (fun _ _ => rfl) c) (ev30 _ _ _ _ _ _ _) hs
   ·cases hs
noncomputable def rn69_3_0 (a b c d : Int) (h : Tk) (e : LL) (f g : Int) : Int := intOf ((e.getD b.toNat []).getD (0 + 1 + 1) AV.junk)
noncomputable def rn69_3_1 (a b c d : Int) (h : Tk) (e : LL) (f g : Int) : Int := intOf ((e.getD a.toNat []).getD (0 + 1 + 1) AV.junk)
noncomputable def rn69_3_2 (a b c d : Int) (h : Tk) (e : LL) (f g : Int) : Int := intOf ((e.getD b.toNat []).getD 0 AV.junk)
noncomputable def rn69_3_3 (a b c d : Int) (h : Tk) (e : LL) (f g : Int) : Int := intOf ((e.getD a.toNat []).getD 0 AV.junk)
noncomputable def go69_3 (a b c d : Int) (h : Tk) (e : LL) (f g : Int) : Bool := bif decide (b < (↑e.length : Int)) then bif decide (0 ≤ b) && decide (b < (↑e.length : Int)) then bif (↑(elsO ((e.getD b.toNat []).getD (0 + 1 + 1 + 1 + 1 + 1 + 1) AV.junk)).length : Int) == 0 then true else bif decide (a < 0) then true else bif decide (0 ≤ b) && decide (b < (↑e.length : Int)) then bif decide (0 ≤ a) && decide (a < (↑e.length : Int)) then bif decide (rn69_3_0 a b c d h e f g < rn69_3_1 a b c d h e f g) then true else bif decide (0 ≤ b) && decide (b < (↑e.length : Int)) then bif decide (0 ≤ a) && decide (a < (↑e.length : Int)) then bif rn69_3_0 a b c d h e f g == rn69_3_1 a b c d h e f g then bif decide (0 ≤ b) && decide (b < (↑e.length : Int)) then decide (0 ≤ a) && decide (a < (↑e.length : Int)) else false else true else false else false else false else false else false else false
noncomputable def nx69_3_0 (a b c d : Int) (h : Tk) (e : LL) (f g : Int) : Int := bif (↑(elsO ((e.getD b.toNat []).getD (0 + 1 + 1 + 1 + 1 + 1 + 1) AV.junk)).length : Int) == 0 then a else bif bif decide (a < 0) then true else bif decide (0 ≤ b) && decide (b < (↑e.length : Int)) then bif decide (0 ≤ a) && decide (a < (↑e.length : Int)) then bif decide (rn69_3_0 a b c d h e f g < rn69_3_1 a b c d h e f g) then true else bif decide (0 ≤ b) && decide (b < (↑e.length : Int)) then bif decide (0 ≤ a) && decide (a < (↑e.length : Int)) then bif rn69_3_0 a b c d h e f g == rn69_3_1 a b c d h e f g then bif decide (0 ≤ b) && decide (b < (↑e.length : Int)) then bif decide (0 ≤ a) && decide (a < (↑e.length : Int)) then decide (rn69_3_2 a b c d h e f g < rn69_3_3 a b c d h e f g) else false else false else false else false else false else false else false then b else a
noncomputable def nx69_3_1 (a b c d : Int) (h : Tk) (e : LL) (f g : Int) : Int := IntKind.i64.wrap (b + 1)
noncomputable def xc69_3_0 (a b c d : Int) (h : Tk) (e : LL) (f g : Int) : Bool := bif decide (b < (↑e.length : Int)) then false else true
theorem rd69_3 (rest : Lsp) (a b c d : Int) (i : Tk) (e : LL) (f g : Int) : rV k30 rest 69 0 Try.f69 3 [1, 3, 4] [0] [3] [] [AV.hp 0 0, iA a, iA b] [Blk.var [iA c, iA d, AV.sl i kF e, iA f, iA g]] = bif go69_3 a b c d i e f g then some (Ex.norm, [AV.hp 0 0, iA (nx69_3_0 a b c d i e f g), iA (nx69_3_1 a b c d i e f g)], [Blk.var [iA c, iA d, AV.sl i kF e, iA f, iA g]]) else bif xc69_3_0 a b c d i e f g then some (Ex.exit 0, [iA a], []) else none := by
 refine Eq.trans (b := bif decide (b < (↑e.length : Int)) then bif decide (0 ≤ b) && decide (b < (↑e.length : Int)) then bif (↑(elsO ((e.getD b.toNat []).getD (0 + 1 + 1 + 1 + 1 + 1 + 1) AV.junk)).length : Int) == 0 then some (Ex.norm, [AV.hp 0 0, iA a, iA (IntKind.i64.wrap (b + 1))], [Blk.var [iA c, iA d, AV.sl i kF e, iA f, iA g]]) else bif bif decide (a < 0) then true else bif decide (0 ≤ b) && decide (b < (↑e.length : Int)) then bif decide (0 ≤ a) && decide (a < (↑e.length : Int)) then bif bif false then true else decide (rn69_3_0 a b c d i e f g < rn69_3_1 a b c d i e f g) then true else bif decide (0 ≤ b) && decide (b < (↑e.length : Int)) then bif decide (0 ≤ a) && decide (a < (↑e.length : Int)) then bif rn69_3_0 a b c d i e f g == rn69_3_1 a b c d i e f g then bif decide (0 ≤ b) && decide (b < (↑e.length : Int)) then bif decide (0 ≤ a) && decide (a < (↑e.length : Int)) then true else false else false else true else false else false else false else false then bif bif decide (a < 0) then true else bif decide (0 ≤ b) && decide (b < (↑e.length : Int)) then bif decide (0 ≤ a) && decide (a < (↑e.length : Int)) then bif bif false then true else decide (rn69_3_0 a b c d i e f g < rn69_3_1 a b c d i e f g) then true else bif decide (0 ≤ b) && decide (b < (↑e.length : Int)) then bif decide (0 ≤ a) && decide (a < (↑e.length : Int)) then bif rn69_3_0 a b c d i e f g == rn69_3_1 a b c d i e f g then bif decide (0 ≤ b) && decide (b < (↑e.length : Int)) then bif decide (0 ≤ a) && decide (a < (↑e.length : Int)) then bif false then true else bif true then decide (rn69_3_2 a b c d i e f g < rn69_3_3 a b c d i e f g) else false else false else false else bif false then true else false else false else false else false else false then some (Ex.norm, [AV.hp 0 0, iA b, iA (IntKind.i64.wrap (b + 1))], [Blk.var [iA c, iA d, AV.sl i kF e, iA f, iA g]]) else some (Ex.norm, [AV.hp 0 0, iA a, iA (IntKind.i64.wrap (b + 1))], [Blk.var [iA c, iA d, AV.sl i kF e, iA f, iA g]]) else none else none else some (Ex.exit 0, [iA a], [])) (by kernel_rfl) ?_
 unfold go69_3 nx69_3_0 nx69_3_1 xc69_3_0
 generalize ((↑(elsO ((e.getD b.toNat []).getD (0 + 1 + 1 + 1 + 1 + 1 + 1) AV.junk)).length : Int) == 0) = c0
 generalize (decide (rn69_3_2 a b c d i e f g < rn69_3_3 a b c d i e f g)) = c1
 generalize (decide (rn69_3_0 a b c d i e f g < rn69_3_1 a b c d i e f g)) = c2
 generalize (decide (0 ≤ a) && decide (a < (↑e.length : Int))) = c3
 generalize (decide (0 ≤ b) && decide (b < (↑e.length : Int))) = c4
 generalize (rn69_3_0 a b c d i e f g == rn69_3_1 a b c d i e f g) = c5
 generalize (decide (b < (↑e.length : Int))) = c6
 generalize (decide (a < 0)) = c7
 cases c6; rfl; cases c4; rfl; cases c0; cases c7; cases c3; rfl; cases c2; cases c5; rfl; cases c1; rfl; rfl; rfl; rfl; rfl
abbrev pl69_3 : Type := Int × Int × Tk × LL × Int × Int
abbrev sl69_3 : Type := Int × Int
noncomputable def vt69_3 (a : pl69_3 × sl69_3) : List AV := [AV.hp 0 0, iA a.2.1, iA a.2.2]
noncomputable def vc69_3 (a : pl69_3 × sl69_3) : List Blk := [Blk.var [iA a.1.1, iA a.1.2.1, AV.sl a.1.2.2.1 kF a.1.2.2.2.1, iA a.1.2.2.2.2.1, iA a.1.2.2.2.2.2]]
noncomputable def de69_3 (vt : List AV) (vc : List Blk) : Option (pl69_3 × sl69_3) :=
 match vt with
 | [qa0, qa1, qa2] => (match vc with
 | [qb0] => (match qa0 with
 | AV.hp (0) (0) => (match qa1 with
 | .int .i64 t3 => (match qa2 with
 | .int .i64 t4 => (match qb0 with
 | .var [.int .i64 b0_0, .int .i64 b0_1, .sl b0_2k [.int .i64, .int .i64, .int .i64, .int .i64, .int .i64, .int .i64, .sl [.int .i64, .int .i64, .int .i64, .int .i64]] b0_2, .int .i64 b0_3, .int .i64 b0_4] => (some ((b0_0, b0_1, b0_2k, b0_2, b0_3, b0_4), (t3, t4)))
 | _ => none)
 | _ => none)
 | _ => none)
 | _ => none)
 | _ => none)
 | _ => none
theorem de69_3_ok (vt : List AV) (vc : List Blk) (a : pl69_3 × sl69_3) (h : de69_3 vt vc = some a) : vt = vt69_3 a ∧ vc = vc69_3 a := by
 unfold de69_3 at h
 iterate 6 (split at h; rotate_left; · cases h)
 injection h with h; subst h; exact ⟨rfl, rfl⟩
noncomputable def g69_3 (p : pl69_3) (s : sl69_3) : Bool := go69_3 s.1 s.2 p.1 p.2.1 p.2.2.1 p.2.2.2.1 p.2.2.2.2.1 p.2.2.2.2.2
noncomputable def n69_3 (p : pl69_3) (s : sl69_3) : sl69_3 := (nx69_3_0 s.1 s.2 p.1 p.2.1 p.2.2.1 p.2.2.2.1 p.2.2.2.2.1 p.2.2.2.2.2, nx69_3_1 s.1 s.2 p.1 p.2.1 p.2.2.1 p.2.2.2.1 p.2.2.2.2.1 p.2.2.2.2.2)
noncomputable def y69_3 (p : pl69_3) (s : sl69_3) : List (Bool × Out) := []
noncomputable def z69_3 (p : pl69_3) (s : sl69_3) : Bool := xc69_3_0 s.1 s.2 p.1 p.2.1 p.2.2.1 p.2.2.2.1 p.2.2.2.2.1 p.2.2.2.2.2
noncomputable def d69_3 (p : pl69_3) (s : sl69_3) : Out := (Ex.exit 0, [iA s.1], [])
noncomputable def ls69_3 := lspOf [1, 3, 4] [0] [3] [] Try.f69.ntmps (0 + tab.nid 69) de69_3 (spI g69_3 n69_3 y69_3 z69_3 d69_3)
theorem lo69_3 (rest : Lsp) : lO k30 (selL 3 ls69_3 rest) 69 0 Try.f69 3 := LoopOK1.iter (i := 3) (by kernel_rfl) [1, 3, 4] [0] [3] [] vt69_3 vc69_3 de69_3 g69_3 n69_3 y69_3 z69_3 d69_3 (fun _ => rfl) de69_3_ok (fun p s => rd69_3 (selL 3 ls69_3 rest) (s.1) (s.2) (p.1) (p.2.1) (p.2.2.1) (p.2.2.2.1) (p.2.2.2.2.1) (p.2.2.2.2.2)) (fun _ _ => rfl)
noncomputable def lsp69 : Lsp := (selL 3 ls69_3 noLsp)
theorem loops69 : ∀ c, Try.f69.body = some c → lsO k30 lsp69 69 0 Try.f69 c := loops_of [3] (by kernel_rfl) (by kernel_rfl) (fun i hi => by simp only [List.mem_cons, List.not_mem_nil, or_false] at hi; subst hi; exact lo69_3 noLsp)
noncomputable def rev69_0 (q lim t k : Int) (tk : Tk) (l : LL) : sl69_3 := finL (g69_3 (q, lim, tk, l, t, k)) (n69_3 (q, lim, tk, l, t, k)) ((-1), 0)
noncomputable def vev69_0 (q lim t k : Int) (tk : Tk) (l : LL) : Int := (rev69_0 q lim t k tk l).fst
noncomputable def vev69_1 (q lim t k : Int) (tk : Tk) (l : LL) : Bool := bif (spI g69_3 n69_3 y69_3 z69_3 d69_3 ((q, lim, tk, l, t, k), (-1), 0)).fst then true else false
theorem ev69 (q lim t k : Int) (tk : Tk) (l : LL) : eF k30 lsp69 69 Try.f69 [.agg [iA q, iA lim, .sl tk kF l, iA t, iA k]] [] = bif vev69_1 q lim t k tk l then some (true, iA (vev69_0 q lim t k tk l), []) else none := by
 refine Eq.trans (b := bif (spI g69_3 n69_3 y69_3 z69_3 d69_3 ((q, lim, tk, l, t, k), (-1), 0)).fst then some (true, iA (rev69_0 q lim t k tk l).fst, []) else none) (by kernel_rfl) ?_
 unfold vev69_0 vev69_1
 generalize (spI g69_3 _ _ _ _ _).fst = c0
 cases c0
 ·skip
  rfl
 ·skip
  rfl
noncomputable def sp69 : Sp
 | [.agg [.int .i64 q, .int .i64 lim, .sl tk [.int .i64, .int .i64, .int .i64, .int .i64, .int .i64, .int .i64, .sl [.int .i64, .int .i64, .int .i64, .int .i64]] l, .int .i64 t, .int .i64 k]], [] => spW (vev69_1 q lim t k tk l) (some ((true, iA (vev69_0 q lim t k tk l), [])))
 | _, _ => none
noncomputable def k69 : Gam := spG 69 sp69 k30
theorem k69_ok : GamOK Try.prog k69 := spG_ok k30_ok fun T C r outs hs => by
   unfold sp69 at hs
   split at hs
   ·exact okE k30_ok Try.func69 loops69 (ev69 _ _ _ _ _ _) hs
   ·cases hs
noncomputable def rev32_0 (q lim t k : Int) (l : LL) : Int := intOf ((l.getD (vev69_0 q lim t k Tk.imm l).toNat []).getD (0 + 1 + 1 + 1 + 1 + 1) AV.junk)
noncomputable def rev32_1 (q lim t k : Int) (l : LL) : LL := elsO ((l.getD (vev69_0 q lim t k Tk.imm l).toNat []).getD (0 + 1 + 1 + 1 + 1 + 1 + 1) AV.junk)
noncomputable def rev32_2 (q lim t k : Int) (l : LL) : Int := intOf ((l.getD (vev69_0 q lim t k Tk.imm l).toNat []).getD (0 + 1) AV.junk)
noncomputable def rev32_3 (q lim t k : Int) (l : LL) : Int := intOf ((l.getD (vev69_0 q lim t k Tk.imm l).toNat []).getD (0 + 1 + 1) AV.junk)
noncomputable def rev32_4 (q lim t k : Int) (l : LL) : Int := intOf ((l.getD (vev69_0 q lim t k Tk.imm l).toNat []).getD (0 + 1 + 1 + 1) AV.junk)
noncomputable def rev32_5 (q lim t k : Int) (l : LL) : Int := intOf ((l.getD (vev69_0 q lim t k Tk.imm l).toNat []).getD (0 + 1 + 1 + 1 + 1) AV.junk)
noncomputable def rev32_6 (q lim t k : Int) (l : LL) : Int := vev70_5 (rev32_0 q lim t k l) (rev32_1 q lim t k l) q
noncomputable def rev32_7 (q lim t k : Int) (l : LL) : Int := vev71_0 t (rev32_2 q lim t k l) (rev32_3 q lim t k l) (rev32_4 q lim t k l) (rev32_5 q lim t k l) (rev32_6 q lim t k l)
noncomputable def rev32_8 (q lim t k : Int) (l : LL) : Int := IntKind.i64.wrap (k + rev32_6 q lim t k l)
noncomputable def rev32_9 (q lim t k : Int) (l : LL) : Int := intOf ((l.getD (vev69_0 q lim t k Tk.imm l).toNat []).getD 0 AV.junk)
noncomputable def rev32_10 (q lim t k : Int) (l : LL) : Int := vev71_1 t (rev32_2 q lim t k l) (rev32_3 q lim t k l) (rev32_4 q lim t k l) (rev32_5 q lim t k l) (rev32_6 q lim t k l)
noncomputable def rev32_11 (q lim t k : Int) (l : LL) : Int := vev71_2 t (rev32_2 q lim t k l) (rev32_3 q lim t k l) (rev32_4 q lim t k l) (rev32_5 q lim t k l) (rev32_6 q lim t k l)
noncomputable def rev32_12 (q lim t k : Int) (l : LL) : Int := vev71_3 t (rev32_2 q lim t k l) (rev32_3 q lim t k l) (rev32_4 q lim t k l) (rev32_5 q lim t k l) (rev32_6 q lim t k l)
noncomputable def rev32_13 (q lim t k : Int) (l : LL) : LL := vev70_0 (rev32_0 q lim t k l) (rev32_1 q lim t k l) q
noncomputable def vev32_0 (q lim t k : Int) (l : LL) : LL := bif decide (vev69_0 q lim t k Tk.imm l < 0) then l else vev54_0 q lim (rev32_7 q lim t k l) (rev32_8 q lim t k l) l (vev69_0 q lim t k Tk.imm l) (rev32_9 q lim t k l) (rev32_2 q lim t k l) (rev32_10 q lim t k l) (rev32_11 q lim t k l) (rev32_12 q lim t k l) (rev32_0 q lim t k l) (rev32_13 q lim t k l)
noncomputable def vev32_1 (q lim t k : Int) (l : LL) : Int := bif decide (vev69_0 q lim t k Tk.imm l < 0) then t else rev32_7 q lim t k l
noncomputable def vev32_2 (q lim t k : Int) (l : LL) : Int := bif decide (vev69_0 q lim t k Tk.imm l < 0) then k else rev32_8 q lim t k l
noncomputable def vev32_3 (q lim t k : Int) (l : LL) : Int := bif decide (vev69_0 q lim t k Tk.imm l < 0) then 0 else rev32_9 q lim t k l
noncomputable def vev32_4 (q lim t k : Int) (l : LL) : Int := bif decide (vev69_0 q lim t k Tk.imm l < 0) then 0 else vev70_1 (rev32_0 q lim t k l) (rev32_1 q lim t k l) q
noncomputable def vev32_5 (q lim t k : Int) (l : LL) : Int := bif decide (vev69_0 q lim t k Tk.imm l < 0) then 0 else rev32_6 q lim t k l
noncomputable def vev32_6 (q lim t k : Int) (l : LL) : Int := bif decide (vev69_0 q lim t k Tk.imm l < 0) then 0 else vev70_3 (rev32_0 q lim t k l) (rev32_1 q lim t k l) q
noncomputable def vev32_7 (q lim t k : Int) (l : LL) : Bool := bif decide (vev69_0 q lim t k Tk.imm l < 0) then false else true
noncomputable def vev32_8 (q lim t k : Int) (l : LL) : Bool := bif vev69_1 q lim t k Tk.imm l then bif decide (vev69_0 q lim t k Tk.imm l < 0) then true else bif decide (0 ≤ vev69_0 q lim t k Tk.imm l) && decide (vev69_0 q lim t k Tk.imm l < (↑l.length : Int)) then bif vev70_6 (rev32_0 q lim t k l) (rev32_1 q lim t k l) q then bif vev71_5 t (rev32_2 q lim t k l) (rev32_3 q lim t k l) (rev32_4 q lim t k l) (rev32_5 q lim t k l) (rev32_6 q lim t k l) then bif vev54_1 q lim (rev32_7 q lim t k l) (rev32_8 q lim t k l) l (vev69_0 q lim t k Tk.imm l) (rev32_9 q lim t k l) (rev32_2 q lim t k l) (rev32_10 q lim t k l) (rev32_11 q lim t k l) (rev32_12 q lim t k l) (rev32_0 q lim t k l) (rev32_13 q lim t k l) then true else false else false else false else false else false
theorem ev32 (q lim t k : Int) (l : LL) : eF k69 noLsp 32 Try.f32 [.agg [iA q, iA lim, .sl .imm kF l, iA t, iA k]] [] = bif vev32_8 q lim t k l then some (true, AV.tup [AV.agg [iA q, iA lim, AV.sl Tk.imm kF (vev32_0 q lim t k l), iA (vev32_1 q lim t k l), iA (vev32_2 q lim t k l)], AV.agg [iA (vev32_3 q lim t k l), iA (vev32_4 q lim t k l), iA (vev32_5 q lim t k l), iA (vev32_6 q lim t k l)], AV.bool (vev32_7 q lim t k l)], []) else none := by
 refine Eq.trans (b := bif vev69_1 q lim t k Tk.imm l then bif decide (vev69_0 q lim t k Tk.imm l < 0) then some (true, AV.tup [AV.agg [iA q, iA lim, AV.sl Tk.imm kF l, iA t, iA k], AV.agg [iA 0, iA 0, iA 0, iA 0], AV.bool false], []) else bif decide (0 ≤ vev69_0 q lim t k Tk.imm l) && decide (vev69_0 q lim t k Tk.imm l < (↑l.length : Int)) then bif vev70_6 (rev32_0 q lim t k l) (rev32_1 q lim t k l) q then bif vev71_5 t (rev32_2 q lim t k l) (rev32_3 q lim t k l) (rev32_4 q lim t k l) (rev32_5 q lim t k l) (rev32_6 q lim t k l) then bif vev54_1 q lim (rev32_7 q lim t k l) (rev32_8 q lim t k l) l (vev69_0 q lim t k Tk.imm l) (rev32_9 q lim t k l) (rev32_2 q lim t k l) (rev32_10 q lim t k l) (rev32_11 q lim t k l) (rev32_12 q lim t k l) (rev32_0 q lim t k l) (rev32_13 q lim t k l) then some (true, AV.tup [AV.agg [iA q, iA lim, AV.sl Tk.imm kF (vev54_0 q lim (rev32_7 q lim t k l) (rev32_8 q lim t k l) l (vev69_0 q lim t k Tk.imm l) (rev32_9 q lim t k l) (rev32_2 q lim t k l) (rev32_10 q lim t k l) (rev32_11 q lim t k l) (rev32_12 q lim t k l) (rev32_0 q lim t k l) (rev32_13 q lim t k l)), iA (rev32_7 q lim t k l), iA (rev32_8 q lim t k l)], AV.agg [iA (rev32_9 q lim t k l), iA (vev70_1 (rev32_0 q lim t k l) (rev32_1 q lim t k l) q), iA (rev32_6 q lim t k l), iA (vev70_3 (rev32_0 q lim t k l) (rev32_1 q lim t k l) q)], AV.bool true], []) else none else none else none else none else none) (by kernel_rfl) ?_
 unfold vev32_0 vev32_1 vev32_2 vev32_3 vev32_4 vev32_5 vev32_6 vev32_7 vev32_8
 generalize (vev54_1 _ _ _ _ _ _ _ _ _ _ _ _ _) = c0
 generalize (decide (0 ≤ vev69_0 q lim t k Tk.imm l) && decide (vev69_0 q lim t k Tk.imm l < (↑l.length : Int))) = c1
 generalize (vev71_5 _ _ _ _ _ _) = c2
 generalize (decide (vev69_0 q lim t k Tk.imm l < 0)) = c3
 generalize (vev70_6 _ _ _) = c4
 generalize (vev69_1 _ _ _ _ _ _) = c5
 cases c5; rfl; cases c3; cases c1; rfl; cases c4; rfl; cases c2; rfl; cases c0; rfl; rfl; rfl
noncomputable def sp32 : Sp
 | [.agg [.int .i64 q, .int .i64 lim, .sl .imm [.int .i64, .int .i64, .int .i64, .int .i64, .int .i64, .int .i64, .sl [.int .i64, .int .i64, .int .i64, .int .i64]] l, .int .i64 t, .int .i64 k]], [] => spW (vev32_8 q lim t k l) (some ((true, AV.tup [AV.agg [iA q, iA lim, AV.sl Tk.imm kF (vev32_0 q lim t k l), iA (vev32_1 q lim t k l), iA (vev32_2 q lim t k l)], AV.agg [iA (vev32_3 q lim t k l), iA (vev32_4 q lim t k l), iA (vev32_5 q lim t k l), iA (vev32_6 q lim t k l)], AV.bool (vev32_7 q lim t k l)], [])))
 | _, _ => none
noncomputable def k32 : Gam := spG 32 sp32 k69
theorem k32_ok : GamOK Try.prog k32 := spG_ok k69_ok fun T C r outs hs => by
   unfold sp32 at hs
   split at hs
   ·exact okE k69_ok Try.func32 (fun c _ => LoopsOK.none (fun _ _ => rfl) c) (ev32 _ _ _ _ _) hs
   ·cases hs
noncomputable def rn72_4_0 (d : Tk) (a : LL) (e : Tk) (b : LL) (c : Int) : Int := intOf ((a.getD c.toNat []).getD (0 + 1 + 1 + 1 + 1 + 1) AV.junk)
noncomputable def rn72_4_1 (d : Tk) (a : LL) (e : Tk) (b : LL) (c : Int) : LL := elsO ((a.getD c.toNat []).getD (0 + 1 + 1 + 1 + 1 + 1 + 1) AV.junk)
noncomputable def rn72_4_2 (d : Tk) (a : LL) (e : Tk) (b : LL) (c : Int) : Int := intOf ((b.getD c.toNat []).getD (0 + 1 + 1 + 1 + 1 + 1) AV.junk)
noncomputable def rn72_4_3 (d : Tk) (a : LL) (e : Tk) (b : LL) (c : Int) : LL := elsO ((b.getD c.toNat []).getD (0 + 1 + 1 + 1 + 1 + 1 + 1) AV.junk)
noncomputable def go72_4 (d : Tk) (a : LL) (e : Tk) (b : LL) (c : Int) : Bool := bif decide (c < (↑a.length : Int)) then bif bif decide (0 ≤ c) && decide (c < (↑a.length : Int)) then bif decide (0 ≤ c) && decide (c < (↑b.length : Int)) then bif intOf ((a.getD c.toNat []).getD 0 AV.junk) != intOf ((b.getD c.toNat []).getD 0 AV.junk) then true else bif decide (0 ≤ c) && decide (c < (↑a.length : Int)) then bif decide (0 ≤ c) && decide (c < (↑b.length : Int)) then bif !(intOf ((a.getD c.toNat []).getD (0 + 1) AV.junk) == intOf ((b.getD c.toNat []).getD (0 + 1) AV.junk) && (intOf ((a.getD c.toNat []).getD (0 + 1 + 1) AV.junk) == intOf ((b.getD c.toNat []).getD (0 + 1 + 1) AV.junk) && (intOf ((a.getD c.toNat []).getD (0 + 1 + 1 + 1) AV.junk) == intOf ((b.getD c.toNat []).getD (0 + 1 + 1 + 1) AV.junk) && (intOf ((a.getD c.toNat []).getD (0 + 1 + 1 + 1 + 1) AV.junk) == intOf ((b.getD c.toNat []).getD (0 + 1 + 1 + 1 + 1) AV.junk) && true)))) then true else bif decide (0 ≤ c) && decide (c < (↑a.length : Int)) then bif decide (0 ≤ c) && decide (c < (↑b.length : Int)) then vev104_1 (rn72_4_0 d a e b c) Tk.imm (rn72_4_1 d a e b c) (rn72_4_2 d a e b c) Tk.imm (rn72_4_3 d a e b c) else false else false else false else false else false else false then bif bif decide (0 ≤ c) && decide (c < (↑a.length : Int)) then bif decide (0 ≤ c) && decide (c < (↑b.length : Int)) then bif intOf ((a.getD c.toNat []).getD 0 AV.junk) != intOf ((b.getD c.toNat []).getD 0 AV.junk) then true else bif decide (0 ≤ c) && decide (c < (↑a.length : Int)) then bif decide (0 ≤ c) && decide (c < (↑b.length : Int)) then bif !(intOf ((a.getD c.toNat []).getD (0 + 1) AV.junk) == intOf ((b.getD c.toNat []).getD (0 + 1) AV.junk) && (intOf ((a.getD c.toNat []).getD (0 + 1 + 1) AV.junk) == intOf ((b.getD c.toNat []).getD (0 + 1 + 1) AV.junk) && (intOf ((a.getD c.toNat []).getD (0 + 1 + 1 + 1) AV.junk) == intOf ((b.getD c.toNat []).getD (0 + 1 + 1 + 1) AV.junk) && (intOf ((a.getD c.toNat []).getD (0 + 1 + 1 + 1 + 1) AV.junk) == intOf ((b.getD c.toNat []).getD (0 + 1 + 1 + 1 + 1) AV.junk) && true)))) then true else bif decide (0 ≤ c) && decide (c < (↑a.length : Int)) then bif decide (0 ≤ c) && decide (c < (↑b.length : Int)) then bif vev104_1 (rn72_4_0 d a e b c) Tk.imm (rn72_4_1 d a e b c) (rn72_4_2 d a e b c) Tk.imm (rn72_4_3 d a e b c) then !vev104_0 (rn72_4_0 d a e b c) Tk.imm (rn72_4_1 d a e b c) (rn72_4_2 d a e b c) Tk.imm (rn72_4_3 d a e b c) else false else false else false else false else false else false else false then false else true else false else false
noncomputable def nx72_4_4 (d : Tk) (a : LL) (e : Tk) (b : LL) (c : Int) : Int := IntKind.i64.wrap (c + 1)
noncomputable def xc72_4_0 (d : Tk) (a : LL) (e : Tk) (b : LL) (c : Int) : Bool := bif decide (c < (↑a.length : Int)) then bif bif decide (0 ≤ c) && decide (c < (↑a.length : Int)) then bif decide (0 ≤ c) && decide (c < (↑b.length : Int)) then bif intOf ((a.getD c.toNat []).getD 0 AV.junk) != intOf ((b.getD c.toNat []).getD 0 AV.junk) then true else bif decide (0 ≤ c) && decide (c < (↑a.length : Int)) then bif decide (0 ≤ c) && decide (c < (↑b.length : Int)) then bif !(intOf ((a.getD c.toNat []).getD (0 + 1) AV.junk) == intOf ((b.getD c.toNat []).getD (0 + 1) AV.junk) && (intOf ((a.getD c.toNat []).getD (0 + 1 + 1) AV.junk) == intOf ((b.getD c.toNat []).getD (0 + 1 + 1) AV.junk) && (intOf ((a.getD c.toNat []).getD (0 + 1 + 1 + 1) AV.junk) == intOf ((b.getD c.toNat []).getD (0 + 1 + 1 + 1) AV.junk) && (intOf ((a.getD c.toNat []).getD (0 + 1 + 1 + 1 + 1) AV.junk) == intOf ((b.getD c.toNat []).getD (0 + 1 + 1 + 1 + 1) AV.junk) && true)))) then true else bif decide (0 ≤ c) && decide (c < (↑a.length : Int)) then bif decide (0 ≤ c) && decide (c < (↑b.length : Int)) then vev104_1 (rn72_4_0 d a e b c) Tk.imm (rn72_4_1 d a e b c) (rn72_4_2 d a e b c) Tk.imm (rn72_4_3 d a e b c) else false else false else false else false else false else false then bif decide (0 ≤ c) && decide (c < (↑a.length : Int)) then bif decide (0 ≤ c) && decide (c < (↑b.length : Int)) then bif intOf ((a.getD c.toNat []).getD 0 AV.junk) != intOf ((b.getD c.toNat []).getD 0 AV.junk) then true else bif decide (0 ≤ c) && decide (c < (↑a.length : Int)) then bif decide (0 ≤ c) && decide (c < (↑b.length : Int)) then bif !(intOf ((a.getD c.toNat []).getD (0 + 1) AV.junk) == intOf ((b.getD c.toNat []).getD (0 + 1) AV.junk) && (intOf ((a.getD c.toNat []).getD (0 + 1 + 1) AV.junk) == intOf ((b.getD c.toNat []).getD (0 + 1 + 1) AV.junk) && (intOf ((a.getD c.toNat []).getD (0 + 1 + 1 + 1) AV.junk) == intOf ((b.getD c.toNat []).getD (0 + 1 + 1 + 1) AV.junk) && (intOf ((a.getD c.toNat []).getD (0 + 1 + 1 + 1 + 1) AV.junk) == intOf ((b.getD c.toNat []).getD (0 + 1 + 1 + 1 + 1) AV.junk) && true)))) then true else bif decide (0 ≤ c) && decide (c < (↑a.length : Int)) then bif decide (0 ≤ c) && decide (c < (↑b.length : Int)) then bif vev104_1 (rn72_4_0 d a e b c) Tk.imm (rn72_4_1 d a e b c) (rn72_4_2 d a e b c) Tk.imm (rn72_4_3 d a e b c) then !vev104_0 (rn72_4_0 d a e b c) Tk.imm (rn72_4_1 d a e b c) (rn72_4_2 d a e b c) Tk.imm (rn72_4_3 d a e b c) else false else false else false else false else false else false else false else false else false
noncomputable def xc72_4_1 (d : Tk) (a : LL) (e : Tk) (b : LL) (c : Int) : Bool := bif decide (c < (↑a.length : Int)) then false else true
theorem rd72_4 (rest : Lsp) (d : Tk) (a : LL) (e : Tk) (b : LL) (c : Int) : rV k32 rest 72 0 Try.f72 4 [0, 1, 5] [] [4] [] [AV.sl d kF a, AV.sl e kF b, iA c] [] = bif go72_4 d a e b c then some (Ex.norm, [AV.sl d kF a, AV.sl e kF b, iA (nx72_4_4 d a e b c)], []) else bif xc72_4_0 d a e b c then some (Ex.ret, [AV.bool false], []) else bif xc72_4_1 d a e b c then some (Ex.exit 0, [AV.junk], []) else none := by
 refine Eq.trans (b := bif decide (c < (↑a.length : Int)) then bif bif decide (0 ≤ c) && decide (c < (↑a.length : Int)) then bif decide (0 ≤ c) && decide (c < (↑b.length : Int)) then bif intOf ((a.getD c.toNat []).getD 0 AV.junk) != intOf ((b.getD c.toNat []).getD 0 AV.junk) then true else bif decide (0 ≤ c) && decide (c < (↑a.length : Int)) then bif decide (0 ≤ c) && decide (c < (↑b.length : Int)) then bif bif false then true else !(intOf ((a.getD c.toNat []).getD (0 + 1) AV.junk) == intOf ((b.getD c.toNat []).getD (0 + 1) AV.junk) && (intOf ((a.getD c.toNat []).getD (0 + 1 + 1) AV.junk) == intOf ((b.getD c.toNat []).getD (0 + 1 + 1) AV.junk) && (intOf ((a.getD c.toNat []).getD (0 + 1 + 1 + 1) AV.junk) == intOf ((b.getD c.toNat []).getD (0 + 1 + 1 + 1) AV.junk) && (intOf ((a.getD c.toNat []).getD (0 + 1 + 1 + 1 + 1) AV.junk) == intOf ((b.getD c.toNat []).getD (0 + 1 + 1 + 1 + 1) AV.junk) && true)))) then true else bif decide (0 ≤ c) && decide (c < (↑a.length : Int)) then bif decide (0 ≤ c) && decide (c < (↑b.length : Int)) then bif vev104_1 (rn72_4_0 d a e b c) Tk.imm (rn72_4_1 d a e b c) (rn72_4_2 d a e b c) Tk.imm (rn72_4_3 d a e b c) then true else false else false else false else false else false else false else false then bif bif decide (0 ≤ c) && decide (c < (↑a.length : Int)) then bif decide (0 ≤ c) && decide (c < (↑b.length : Int)) then bif intOf ((a.getD c.toNat []).getD 0 AV.junk) != intOf ((b.getD c.toNat []).getD 0 AV.junk) then true else bif decide (0 ≤ c) && decide (c < (↑a.length : Int)) then bif decide (0 ≤ c) && decide (c < (↑b.length : Int)) then bif bif false then true else !(intOf ((a.getD c.toNat []).getD (0 + 1) AV.junk) == intOf ((b.getD c.toNat []).getD (0 + 1) AV.junk) && (intOf ((a.getD c.toNat []).getD (0 + 1 + 1) AV.junk) == intOf ((b.getD c.toNat []).getD (0 + 1 + 1) AV.junk) && (intOf ((a.getD c.toNat []).getD (0 + 1 + 1 + 1) AV.junk) == intOf ((b.getD c.toNat []).getD (0 + 1 + 1 + 1) AV.junk) && (intOf ((a.getD c.toNat []).getD (0 + 1 + 1 + 1 + 1) AV.junk) == intOf ((b.getD c.toNat []).getD (0 + 1 + 1 + 1 + 1) AV.junk) && true)))) then true else bif decide (0 ≤ c) && decide (c < (↑a.length : Int)) then bif decide (0 ≤ c) && decide (c < (↑b.length : Int)) then bif vev104_1 (rn72_4_0 d a e b c) Tk.imm (rn72_4_1 d a e b c) (rn72_4_2 d a e b c) Tk.imm (rn72_4_3 d a e b c) then bif false then true else !vev104_0 (rn72_4_0 d a e b c) Tk.imm (rn72_4_1 d a e b c) (rn72_4_2 d a e b c) Tk.imm (rn72_4_3 d a e b c) else false else false else false else false else false else false else false then some (Ex.ret, [AV.bool false], []) else some (Ex.norm, [AV.sl d kF a, AV.sl e kF b, iA (IntKind.i64.wrap (c + 1))], []) else none else some (Ex.exit 0, [AV.junk], [])) (by kernel_rfl) ?_
 unfold go72_4 nx72_4_4 xc72_4_0 xc72_4_1
 generalize (!(intOf ((a.getD c.toNat []).getD (0 + 1) AV.junk) == intOf ((b.getD c.toNat []).getD (0 + 1) AV.junk) && (intOf ((a.getD c.toNat []).getD (0 + 1 + 1) AV.junk) == intOf ((b.getD c.toNat []).getD (0 + 1 + 1) AV.junk) && (intOf ((a.getD c.toNat []).getD (0 + 1 + 1 + 1) AV.junk) == intOf ((b.getD c.toNat []).getD (0 + 1 + 1 + 1) AV.junk) && (intOf ((a.getD c.toNat []).getD (0 + 1 + 1 + 1 + 1) AV.junk) == intOf ((b.getD c.toNat []).getD (0 + 1 + 1 + 1 + 1) AV.junk) && true))))) = c0
 generalize (decide (0 ≤ c) && decide (c < (↑b.length : Int))) = c1
 generalize (decide (0 ≤ c) && decide (c < (↑a.length : Int))) = c2
 generalize (intOf ((a.getD c.toNat []).getD 0 AV.junk) != intOf ((b.getD c.toNat []).getD 0 AV.junk)) = c3
 generalize (!vev104_0 _ _ _ _ _ _) = c4
 generalize (vev104_1 _ _ _ _ _ _) = c5
 generalize (decide (c < (↑a.length : Int))) = c6
 cases c6; rfl; cases c2; rfl; cases c1; rfl; cases c3; cases c0; cases c5; rfl; cases c4; rfl; rfl; rfl; rfl
abbrev pl72_4 : Type := Tk × LL × Tk × LL
abbrev sl72_4 : Type := Int
noncomputable def vt72_4 (a : pl72_4 × sl72_4) : List AV := [AV.sl a.1.1 kF a.1.2.1, AV.sl a.1.2.2.1 kF a.1.2.2.2, iA a.2]
noncomputable def vc72_4 (a : pl72_4 × sl72_4) : List Blk := []
noncomputable def de72_4 (vt : List AV) (vc : List Blk) : Option (pl72_4 × sl72_4) :=
 match vt with
 | [qa0, qa1, qa2] => (match vc with
 | [] => (match qa0 with
 | .sl t0k [.int .i64, .int .i64, .int .i64, .int .i64, .int .i64, .int .i64, .sl [.int .i64, .int .i64, .int .i64, .int .i64]] t0 => (match qa1 with
 | .sl t1k [.int .i64, .int .i64, .int .i64, .int .i64, .int .i64, .int .i64, .sl [.int .i64, .int .i64, .int .i64, .int .i64]] t1 => (match qa2 with
 | .int .i64 t5 => (some ((t0k, t0, t1k, t1), t5))
 | _ => none)
 | _ => none)
 | _ => none)
 | _ => none)
 | _ => none
theorem de72_4_ok (vt : List AV) (vc : List Blk) (a : pl72_4 × sl72_4) (h : de72_4 vt vc = some a) : vt = vt72_4 a ∧ vc = vc72_4 a := by
 unfold de72_4 at h
 iterate 5 (split at h; rotate_left; · cases h)
 injection h with h; subst h; exact ⟨rfl, rfl⟩
noncomputable def g72_4 (p : pl72_4) (s : sl72_4) : Bool := go72_4 p.1 p.2.1 p.2.2.1 p.2.2.2 s
noncomputable def n72_4 (p : pl72_4) (s : sl72_4) : sl72_4 := nx72_4_4 p.1 p.2.1 p.2.2.1 p.2.2.2 s
noncomputable def y72_4 (p : pl72_4) (s : sl72_4) : List (Bool × Out) := [(xc72_4_0 p.1 p.2.1 p.2.2.1 p.2.2.2 s, (Ex.ret, [AV.bool false], []))]
noncomputable def z72_4 (p : pl72_4) (s : sl72_4) : Bool := xc72_4_1 p.1 p.2.1 p.2.2.1 p.2.2.2 s
noncomputable def d72_4 (p : pl72_4) (s : sl72_4) : Out := (Ex.exit 0, [AV.junk], [])
noncomputable def ls72_4 := lspOf [0, 1, 5] [] [4] [] Try.f72.ntmps (0 + tab.nid 72) de72_4 (spI g72_4 n72_4 y72_4 z72_4 d72_4)
theorem lo72_4 (rest : Lsp) : lO k32 (selL 4 ls72_4 rest) 72 0 Try.f72 4 := LoopOK1.iter (i := 4) (by kernel_rfl) [0, 1, 5] [] [4] [] vt72_4 vc72_4 de72_4 g72_4 n72_4 y72_4 z72_4 d72_4 (fun _ => rfl) de72_4_ok (fun p s => rd72_4 (selL 4 ls72_4 rest) (p.1) (p.2.1) (p.2.2.1) (p.2.2.2) s) (fun _ _ => rfl)
noncomputable def lsp72 : Lsp := (selL 4 ls72_4 noLsp)
theorem loops72 : ∀ c, Try.f72.body = some c → lsO k32 lsp72 72 0 Try.f72 c := loops_of [4] (by kernel_rfl) (by kernel_rfl) (fun i hi => by simp only [List.mem_cons, List.not_mem_nil, or_false] at hi; subst hi; exact lo72_4 noLsp)
noncomputable def rev72_0 (tk : Tk) (a : LL) (tk2 : Tk) (b : LL) : sl72_4 := finL (g72_4 (tk, a, tk2, b)) (n72_4 (tk, a, tk2, b)) 0
noncomputable def vev72_0 (tk : Tk) (a : LL) (tk2 : Tk) (b : LL) : Bool := bif (↑a.length : Int) != (↑b.length : Int) then false else bif xc72_4_0 tk a tk2 b (rev72_0 tk a tk2 b) then false else true
noncomputable def vev72_1 (tk : Tk) (a : LL) (tk2 : Tk) (b : LL) : Bool := bif (↑a.length : Int) != (↑b.length : Int) then true else bif (spI g72_4 n72_4 y72_4 z72_4 d72_4 ((tk, a, tk2, b), 0)).fst then true else false
theorem ev72 (tk : Tk) (a : LL) (tk2 : Tk) (b : LL) : eF k32 lsp72 72 Try.f72 [.sl tk kF a, .sl tk2 kF b] [] = bif vev72_1 tk a tk2 b then some (true, AV.bool (vev72_0 tk a tk2 b), []) else none := by
 refine Eq.trans (b := bif (↑a.length : Int) != (↑b.length : Int) then some (true, AV.bool false, []) else bif (spI g72_4 n72_4 y72_4 z72_4 d72_4 ((tk, a, tk2, b), 0)).fst then bif xc72_4_0 tk a tk2 b (rev72_0 tk a tk2 b) then some (true, AV.bool false, []) else some (true, AV.bool true, []) else none) (by kernel_rfl) ?_
 unfold vev72_0 vev72_1
 generalize (spI g72_4 _ _ _ _ _).fst = c0
 generalize ((↑a.length : Int) != (↑b.length : Int)) = c1
 generalize (xc72_4_0 _ _ _ _ _) = c2
 cases c1; cases c0; rfl; cases c2; rfl; rfl; rfl
noncomputable def sp72 : Sp
 | [.sl tk [.int .i64, .int .i64, .int .i64, .int .i64, .int .i64, .int .i64, .sl [.int .i64, .int .i64, .int .i64, .int .i64]] a, .sl tk2 [.int .i64, .int .i64, .int .i64, .int .i64, .int .i64, .int .i64, .sl [.int .i64, .int .i64, .int .i64, .int .i64]] b], [] => spW (vev72_1 tk a tk2 b) (some ((true, AV.bool (vev72_0 tk a tk2 b), [])))
 | _, _ => none
noncomputable def k72 : Gam := spG 72 sp72 k32
theorem k72_ok : GamOK Try.prog k72 := spG_ok k32_ok fun T C r outs hs => by
   unfold sp72 at hs
   split at hs
   ·exact okE k32_ok Try.func72 loops72 (ev72 _ _ _ _) hs
   ·cases hs
end Go.Proofs.Gv
namespace Go.Proofs.Gv
open Go.Proofs
noncomputable def rn73_7_0 (f : Tk) (c : LL) (d e g : Int) (a b : LL) : LL := elsO ((c.getD d.toNat []).getD (0 + 1 + 1 + 1 + 1 + 1 + 1) AV.junk)
noncomputable def rn73_7_1 (f : Tk) (c : LL) (d e g : Int) (a b : LL) : Int := (↑(rn73_7_0 f c d e g a b).length : Int)
noncomputable def rn73_7_2 (f : Tk) (c : LL) (d e g : Int) (a b : LL) : LL := [[iA (intOf (((rn73_7_0 f c d e g a b).getD e.toNat []).getD 0 AV.junk)), iA (intOf (((rn73_7_0 f c d e g a b).getD e.toNat []).getD (0 + 1) AV.junk)), iA (intOf (((rn73_7_0 f c d e g a b).getD e.toNat []).getD (0 + 1 + 1) AV.junk)), iA (intOf (((rn73_7_0 f c d e g a b).getD e.toNat []).getD (0 + 1 + 1 + 1) AV.junk))]]
noncomputable def go73_7 (f : Tk) (c : LL) (d e g : Int) (a b : LL) : Bool := bif decide (0 ≤ d) && decide (d < (↑c.length : Int)) then bif decide (e < rn73_7_1 f c d e g a b) then bif decide (0 ≤ e) && decide (e < rn73_7_1 f c d e g a b) then bif decide ((b.length + (rn73_7_2 f c d e g a b).length) * 32 ≤ 140737488355328) then decide (b.length + (rn73_7_2 f c d e g a b).length ≤ 9223372036854775807) else false else false else false else false
noncomputable def nx73_7_3 (f : Tk) (c : LL) (d e g : Int) (a b : LL) : Int := IntKind.i64.wrap (e + 1)
noncomputable def nx73_7_6 (f : Tk) (c : LL) (d e g : Int) (a b : LL) : LL := b ++ rn73_7_2 f c d e g a b
noncomputable def xc73_7_0 (f : Tk) (c : LL) (d e g : Int) (a b : LL) : Bool := bif decide (0 ≤ d) && decide (d < (↑c.length : Int)) then bif decide (e < rn73_7_1 f c d e g a b) then false else true else false
theorem rd73_7 (rest : Lsp) (f : Tk) (c : LL) (d e g : Int) (a b : LL) : rV k72 rest 73 0 Try.f73 7 [0, 3, 4, 5, 6] [0, 1, 2, 3, 4] [0, 3, 4, 5] [0, 1, 2, 3, 4] [AV.sl f kF c, AV.rf 3 kF, iA d, AV.hp 2 0, iA e] [Blk.dead, Blk.dead, Blk.var [iA g, AV.rf 4 kI4], Blk.row kF a, Blk.row kI4 b] = bif go73_7 f c d e g a b then some (Ex.norm, [AV.sl f kF c, AV.rf 3 kF, iA d, AV.hp 2 0, iA (nx73_7_3 f c d e g a b)], [Blk.dead, Blk.dead, Blk.var [iA g, AV.rf 4 kI4], Blk.row kF a, Blk.row kI4 (nx73_7_6 f c d e g a b)]) else bif xc73_7_0 f c d e g a b then some (Ex.exit 2, [AV.sl f kF c, AV.rf 3 kF, iA d, AV.hp 2 0], [Blk.dead, Blk.dead, Blk.var [iA g, AV.rf 4 kI4], Blk.row kF a, Blk.row kI4 b]) else none := by
 refine Eq.trans (b := bif decide (0 ≤ d) && decide (d < (↑c.length : Int)) then bif decide (e < rn73_7_1 f c d e g a b) then bif decide (0 ≤ d) && decide (d < (↑c.length : Int)) then bif decide (0 ≤ e) && decide (e < rn73_7_1 f c d e g a b) then bif bif decide ((b.length + (rn73_7_2 f c d e g a b).length) * 32 ≤ 140737488355328) then decide (b.length + (rn73_7_2 f c d e g a b).length ≤ 9223372036854775807) else false then some (Ex.norm, [AV.sl f kF c, AV.rf 3 kF, iA d, AV.hp 2 0, iA (IntKind.i64.wrap (e + 1))], [Blk.dead, Blk.dead, Blk.var [iA g, AV.rf 4 kI4], Blk.row kF a, Blk.row kI4 (b ++ rn73_7_2 f c d e g a b)]) else none else none else none else some (Ex.exit 2, [AV.sl f kF c, AV.rf 3 kF, iA d, AV.hp 2 0], [Blk.dead, Blk.dead, Blk.var [iA g, AV.rf 4 kI4], Blk.row kF a, Blk.row kI4 b]) else none) (by kernel_rfl) ?_
 unfold go73_7 nx73_7_3 nx73_7_6 xc73_7_0
 generalize (decide ((b.length + (rn73_7_2 f c d e g a b).length) * 32 ≤ 140737488355328)) = c0
 generalize (decide (b.length + (rn73_7_2 f c d e g a b).length ≤ 9223372036854775807)) = c1
 generalize (decide (0 ≤ e) && decide (e < rn73_7_1 f c d e g a b)) = c2
 generalize (decide (0 ≤ d) && decide (d < (↑c.length : Int))) = c3
 generalize (decide (e < rn73_7_1 f c d e g a b)) = c4
 cases c3; rfl; cases c4; rfl; cases c2; rfl; cases c0; rfl; cases c1; rfl; rfl
abbrev pl73_7 : Type := Tk × LL × Int × Int × LL
abbrev sl73_7 : Type := Int × LL
noncomputable def vt73_7 (a : pl73_7 × sl73_7) : List AV := [AV.sl a.1.1 kF a.1.2.1, AV.rf 3 kF, iA a.1.2.2.1, AV.hp 2 0, iA a.2.1]
noncomputable def vc73_7 (a : pl73_7 × sl73_7) : List Blk := [Blk.dead, Blk.dead, Blk.var [iA a.1.2.2.2.1, AV.rf 4 kI4], Blk.row kF a.1.2.2.2.2, Blk.row kI4 a.2.2]
noncomputable def de73_7 (vt : List AV) (vc : List Blk) : Option (pl73_7 × sl73_7) :=
 match vt with
 | [qa0, qa1, qa2, qa3, qa4] => (match vc with
 | [qb0, qb1, qb2, qb3, qb4] => (match qa0 with
 | .sl t0k [.int .i64, .int .i64, .int .i64, .int .i64, .int .i64, .int .i64, .sl [.int .i64, .int .i64, .int .i64, .int .i64]] t0 => (match qa1 with
 | AV.rf (3) [.int .i64, .int .i64, .int .i64, .int .i64, .int .i64, .int .i64, .sl [.int .i64, .int .i64, .int .i64, .int .i64]] => (match qa2 with
 | .int .i64 t4 => (match qa3 with
 | AV.hp (2) (0) => (match qa4 with
 | .int .i64 t6 => (match qb0 with
 | Blk.dead => (match qb1 with
 | Blk.dead => (match qb2 with
 | .var [.int .i64 b2_0, AV.rf (4) [.int .i64, .int .i64, .int .i64, .int .i64]] => (match qb3 with
 | .row [.int .i64, .int .i64, .int .i64, .int .i64, .int .i64, .int .i64, .sl [.int .i64, .int .i64, .int .i64, .int .i64]] b3 => (match qb4 with
 | .row [.int .i64, .int .i64, .int .i64, .int .i64] b4 => (some ((t0k, t0, t4, b2_0, b3), (t6, b4)))
 | _ => none)
 | _ => none)
 | _ => none)
 | _ => none)
 | _ => none)
 | _ => none)
 | _ => none)
 | _ => none)
 | _ => none)
 | _ => none)
 | _ => none)
 | _ => none
theorem de73_7_ok (vt : List AV) (vc : List Blk) (a : pl73_7 × sl73_7) (h : de73_7 vt vc = some a) : vt = vt73_7 a ∧ vc = vc73_7 a := by
 unfold de73_7 at h
 iterate 12 (split at h; rotate_left; · cases h)
 injection h with h; subst h; exact ⟨rfl, rfl⟩
noncomputable def g73_7 (p : pl73_7) (s : sl73_7) : Bool := go73_7 p.1 p.2.1 p.2.2.1 s.1 p.2.2.2.1 p.2.2.2.2 s.2
noncomputable def n73_7 (p : pl73_7) (s : sl73_7) : sl73_7 := (nx73_7_3 p.1 p.2.1 p.2.2.1 s.1 p.2.2.2.1 p.2.2.2.2 s.2, nx73_7_6 p.1 p.2.1 p.2.2.1 s.1 p.2.2.2.1 p.2.2.2.2 s.2)
noncomputable def y73_7 (p : pl73_7) (s : sl73_7) : List (Bool × Out) := []
noncomputable def z73_7 (p : pl73_7) (s : sl73_7) : Bool := xc73_7_0 p.1 p.2.1 p.2.2.1 s.1 p.2.2.2.1 p.2.2.2.2 s.2
noncomputable def d73_7 (p : pl73_7) (s : sl73_7) : Out := (Ex.exit 2, [AV.sl p.1 kF p.2.1, AV.rf 3 kF, iA p.2.2.1, AV.hp 2 0], [Blk.dead, Blk.dead, Blk.var [iA p.2.2.2.1, AV.rf 4 kI4], Blk.row kF p.2.2.2.2, Blk.row kI4 s.2])
noncomputable def ls73_7 := lspOf [0, 3, 4, 5, 6] [0, 1, 2, 3, 4] [0, 3, 4, 5] [0, 1, 2, 3, 4] Try.f73.ntmps (0 + tab.nid 73) de73_7 (spI g73_7 n73_7 y73_7 z73_7 d73_7)
theorem lo73_7 (rest : Lsp) : lO k72 (selL 7 ls73_7 rest) 73 0 Try.f73 7 := LoopOK1.iter (i := 7) (by kernel_rfl) [0, 3, 4, 5, 6] [0, 1, 2, 3, 4] [0, 3, 4, 5] [0, 1, 2, 3, 4] vt73_7 vc73_7 de73_7 g73_7 n73_7 y73_7 z73_7 d73_7 (fun _ => rfl) de73_7_ok (fun p s => rd73_7 (selL 7 ls73_7 rest) (p.1) (p.2.1) (p.2.2.1) (s.1) (p.2.2.2.1) (p.2.2.2.2) (s.2)) (fun _ _ => rfl)
noncomputable def rn73_3_0 (d : Tk) (b : LL) (c : Int) (a : LL) : Int := intOf ((b.getD c.toNat []).getD (0 + 1 + 1 + 1 + 1 + 1) AV.junk)
noncomputable def rn73_3_1 (d : Tk) (b : LL) (c : Int) (a : LL) : sl73_7 := finL (g73_7 (d, b, c, rn73_3_0 d b c a, a)) (n73_7 (d, b, c, rn73_3_0 d b c a, a)) (0, [])
noncomputable def rn73_3_2 (d : Tk) (b : LL) (c : Int) (a : LL) : LL := [[iA (intOf ((b.getD c.toNat []).getD 0 AV.junk)), iA (intOf ((b.getD c.toNat []).getD (0 + 1) AV.junk)), iA (intOf ((b.getD c.toNat []).getD (0 + 1 + 1) AV.junk)), iA (intOf ((b.getD c.toNat []).getD (0 + 1 + 1 + 1) AV.junk)), iA (intOf ((b.getD c.toNat []).getD (0 + 1 + 1 + 1 + 1) AV.junk)), iA (rn73_3_0 d b c a), AV.sl Tk.imm kI4 (rn73_3_1 d b c a).snd]]
noncomputable def go73_3 (d : Tk) (b : LL) (c : Int) (a : LL) : Bool := bif decide (c < (↑b.length : Int)) then bif decide (0 ≤ c) && decide (c < (↑b.length : Int)) then bif (spI g73_7 n73_7 y73_7 z73_7 d73_7 ((d, b, c, rn73_3_0 d b c a, a), 0, [])).fst then bif decide ((a.length + (rn73_3_2 d b c a).length) * 72 ≤ 140737488355328) then decide (a.length + (rn73_3_2 d b c a).length ≤ 9223372036854775807) else false else false else false else false
noncomputable def nx73_3_2 (d : Tk) (b : LL) (c : Int) (a : LL) : Int := IntKind.i64.wrap (c + 1)
noncomputable def nx73_3_3 (d : Tk) (b : LL) (c : Int) (a : LL) : LL := a ++ rn73_3_2 d b c a
noncomputable def xc73_3_0 (d : Tk) (b : LL) (c : Int) (a : LL) : Bool := bif decide (c < (↑b.length : Int)) then false else true
theorem rd73_3 (rest : Lsp) (d : Tk) (b : LL) (c : Int) (a : LL) : rV k72 (selL 7 ls73_7 rest) 73 0 Try.f73 3 [0, 3, 4] [0, 3] [3] [0, 3] [AV.sl d kF b, AV.rf 3 kF, iA c] [Blk.dead, Blk.row kF a] = bif go73_3 d b c a then some (Ex.norm, [AV.sl d kF b, AV.rf 3 kF, iA (nx73_3_2 d b c a)], [Blk.dead, Blk.row kF (nx73_3_3 d b c a)]) else bif xc73_3_0 d b c a then some (Ex.exit 0, [AV.rf 3 kF], [Blk.dead, Blk.row kF a]) else none := by
 refine Eq.trans (b := bif decide (c < (↑b.length : Int)) then bif decide (0 ≤ c) && decide (c < (↑b.length : Int)) then bif (spI g73_7 n73_7 y73_7 z73_7 d73_7 ((d, b, c, rn73_3_0 d b c a, a), 0, [])).fst then bif decide (0 ≤ c) && decide (c < (↑b.length : Int)) then bif decide (0 ≤ c) && decide (c < (↑b.length : Int)) then bif bif decide ((a.length + (rn73_3_2 d b c a).length) * 72 ≤ 140737488355328) then decide (a.length + (rn73_3_2 d b c a).length ≤ 9223372036854775807) else false then some (Ex.norm, [AV.sl d kF b, AV.rf 3 kF, iA (IntKind.i64.wrap (c + 1))], [Blk.dead, Blk.row kF (a ++ rn73_3_2 d b c a)]) else none else none else none else none else none else some (Ex.exit 0, [AV.rf 3 kF], [Blk.dead, Blk.row kF a])) (by kernel_rfl) ?_
 unfold go73_3 nx73_3_2 nx73_3_3 xc73_3_0
 generalize (spI g73_7 _ _ _ _ _).fst = c0
 generalize (decide ((a.length + (rn73_3_2 d b c a).length) * 72 ≤ 140737488355328)) = c1
 generalize (decide (a.length + (rn73_3_2 d b c a).length ≤ 9223372036854775807)) = c2
 generalize (decide (0 ≤ c) && decide (c < (↑b.length : Int))) = c3
 generalize (decide (c < (↑b.length : Int))) = c4
 cases c4; rfl; cases c3; rfl; cases c0; rfl; cases c1; rfl; cases c2; rfl; rfl
abbrev pl73_3 : Type := Tk × LL
abbrev sl73_3 : Type := Int × LL
noncomputable def vt73_3 (a : pl73_3 × sl73_3) : List AV := [AV.sl a.1.1 kF a.1.2, AV.rf 3 kF, iA a.2.1]
noncomputable def vc73_3 (a : pl73_3 × sl73_3) : List Blk := [Blk.dead, Blk.row kF a.2.2]
noncomputable def de73_3 (vt : List AV) (vc : List Blk) : Option (pl73_3 × sl73_3) :=
 match vt with
 | [qa0, qa1, qa2] => (match vc with
 | [qb0, qb1] => (match qa0 with
 | .sl t0k [.int .i64, .int .i64, .int .i64, .int .i64, .int .i64, .int .i64, .sl [.int .i64, .int .i64, .int .i64, .int .i64]] t0 => (match qa1 with
 | AV.rf (3) [.int .i64, .int .i64, .int .i64, .int .i64, .int .i64, .int .i64, .sl [.int .i64, .int .i64, .int .i64, .int .i64]] => (match qa2 with
 | .int .i64 t4 => (match qb0 with
 | Blk.dead => (match qb1 with
 | .row [.int .i64, .int .i64, .int .i64, .int .i64, .int .i64, .int .i64, .sl [.int .i64, .int .i64, .int .i64, .int .i64]] b3 => (some ((t0k, t0), (t4, b3)))
 | _ => none)
 | _ => none)
 | _ => none)
 | _ => none)
 | _ => none)
 | _ => none)
 | _ => none
theorem de73_3_ok (vt : List AV) (vc : List Blk) (a : pl73_3 × sl73_3) (h : de73_3 vt vc = some a) : vt = vt73_3 a ∧ vc = vc73_3 a := by
 unfold de73_3 at h
 iterate 7 (split at h; rotate_left; · cases h)
 injection h with h; subst h; exact ⟨rfl, rfl⟩
noncomputable def g73_3 (p : pl73_3) (s : sl73_3) : Bool := go73_3 p.1 p.2 s.1 s.2
noncomputable def n73_3 (p : pl73_3) (s : sl73_3) : sl73_3 := (nx73_3_2 p.1 p.2 s.1 s.2, nx73_3_3 p.1 p.2 s.1 s.2)
noncomputable def y73_3 (p : pl73_3) (s : sl73_3) : List (Bool × Out) := []
noncomputable def z73_3 (p : pl73_3) (s : sl73_3) : Bool := xc73_3_0 p.1 p.2 s.1 s.2
noncomputable def d73_3 (p : pl73_3) (s : sl73_3) : Out := (Ex.exit 0, [AV.rf 3 kF], [Blk.dead, Blk.row kF s.2])
noncomputable def ls73_3 := lspOf [0, 3, 4] [0, 3] [3] [0, 3] Try.f73.ntmps (0 + tab.nid 73) de73_3 (spI g73_3 n73_3 y73_3 z73_3 d73_3)
theorem lo73_3 (rest : Lsp) : lO k72 (selL 7 ls73_7 (selL 3 ls73_3 rest)) 73 0 Try.f73 3 := LoopOK1.iter (i := 3) (by kernel_rfl) [0, 3, 4] [0, 3] [3] [0, 3] vt73_3 vc73_3 de73_3 g73_3 n73_3 y73_3 z73_3 d73_3 (fun _ => rfl) de73_3_ok (fun p s => rd73_3 (selL 3 ls73_3 rest) (p.1) (p.2) (s.1) (s.2)) (fun _ _ => rfl)
noncomputable def lsp73 : Lsp := (selL 7 ls73_7 (selL 3 ls73_3 noLsp))
theorem loops73 : ∀ c, Try.f73.body = some c → lsO k72 lsp73 73 0 Try.f73 c := loops_of [3, 7] (by kernel_rfl) (by kernel_rfl) (fun i hi => by
 simp only [List.mem_cons, List.not_mem_nil, or_false] at hi
 rcases hi with rfl | rfl
 ·exact lo73_3 noLsp
 ·exact lo73_7 (selL 3 ls73_3 noLsp))
noncomputable def rev73_0 (tk : Tk) (a : LL) : sl73_3 := finL (g73_3 (tk, a)) (n73_3 (tk, a)) (0, [])
noncomputable def vev73_0 (tk : Tk) (a : LL) : LL := (rev73_0 tk a).snd
noncomputable def vev73_1 (tk : Tk) (a : LL) : Bool := bif (spI g73_3 n73_3 y73_3 z73_3 d73_3 ((tk, a), 0, [])).fst then true else false
theorem ev73 (tk : Tk) (a : LL) : eF k72 lsp73 73 Try.f73 [.sl tk kF a] [] = bif vev73_1 tk a then some (true, AV.sl Tk.imm kF (vev73_0 tk a), []) else none := by
 refine Eq.trans (b := bif (spI g73_3 n73_3 y73_3 z73_3 d73_3 ((tk, a), 0, [])).fst then some (true, AV.sl Tk.imm kF (rev73_0 tk a).snd, []) else none) (by kernel_rfl) ?_
 unfold vev73_0 vev73_1
 generalize (spI g73_3 _ _ _ _ _).fst = c0
 cases c0
 ·skip
  rfl
 ·skip
  rfl
noncomputable def sp73 : Sp
 | [.sl tk [.int .i64, .int .i64, .int .i64, .int .i64, .int .i64, .int .i64, .sl [.int .i64, .int .i64, .int .i64, .int .i64]] a], [] => spW (vev73_1 tk a) (some ((true, AV.sl Tk.imm kF (vev73_0 tk a), [])))
 | _, _ => none
noncomputable def k73 : Gam := spG 73 sp73 k72
theorem k73_ok : GamOK Try.prog k73 := spG_ok k72_ok fun T C r outs hs => by
   unfold sp73 at hs
   split at hs
   ·exact okE k72_ok Try.func73 loops73 (ev73 _ _) hs
   ·cases hs
noncomputable def rev33_0 (q lim t k : Int) (order es ready : LL) (q2 lim2 t2 k2 : Int) (l : LL) : LL := vev35_0 q lim t k order es ready
noncomputable def rev33_1 (q lim t k : Int) (order es ready : LL) (q2 lim2 t2 k2 : Int) (l : LL) : LL := vev73_0 Tk.imm (rev33_0 q lim t k order es ready q2 lim2 t2 k2 l)
noncomputable def vev33_0 (q lim t k : Int) (order es ready : LL) (q2 lim2 t2 k2 : Int) (l : LL) : Bool := bif vev35_1 q lim t k order es ready then bif vev73_1 Tk.imm (rev33_0 q lim t k order es ready q2 lim2 t2 k2 l) then bif vev72_1 Tk.imm (rev33_1 q lim t k order es ready q2 lim2 t2 k2 l) Tk.imm l then bif vev72_0 Tk.imm (rev33_1 q lim t k order es ready q2 lim2 t2 k2 l) Tk.imm l then bif bif true then t == t2 else false then bif bif true then k == k2 else false then bif vev34_1 q lim t k order es ready then bif vev52_1 q2 lim2 t2 k2 Tk.imm l then bif true then vev34_0 q lim t k order es ready == vev52_0 q2 lim2 t2 k2 Tk.imm l else false else false else false else false else false else false else false else false else false
noncomputable def vev33_1 (q lim t k : Int) (order es ready : LL) (q2 lim2 t2 k2 : Int) (l : LL) : Bool := bif bif vev35_1 q lim t k order es ready then bif vev73_1 Tk.imm (rev33_0 q lim t k order es ready q2 lim2 t2 k2 l) then bif vev72_1 Tk.imm (rev33_1 q lim t k order es ready q2 lim2 t2 k2 l) Tk.imm l then bif vev72_0 Tk.imm (rev33_1 q lim t k order es ready q2 lim2 t2 k2 l) Tk.imm l then bif t == t2 then bif k == k2 then bif vev34_1 q lim t k order es ready then vev52_1 q2 lim2 t2 k2 Tk.imm l else false else true else true else true else false else false else false then true else false
theorem ev33 (q lim t k : Int) (order es ready : LL) (q2 lim2 t2 k2 : Int) (l : LL) : eF k73 noLsp 33 Try.f33 [.hp 0 0, .agg [iA q2, iA lim2, .sl .imm kF l, iA t2, iA k2]] (bS q lim ready t k order es) = bif vev33_1 q lim t k order es ready q2 lim2 t2 k2 l then some (true, AV.bool (vev33_0 q lim t k order es ready q2 lim2 t2 k2 l), (bS q lim ready t k order es)) else none := by
 refine Eq.trans (b := bif bif vev35_1 q lim t k order es ready then bif vev73_1 Tk.imm (rev33_0 q lim t k order es ready q2 lim2 t2 k2 l) then bif vev72_1 Tk.imm (rev33_1 q lim t k order es ready q2 lim2 t2 k2 l) Tk.imm l then bif vev72_0 Tk.imm (rev33_1 q lim t k order es ready q2 lim2 t2 k2 l) Tk.imm l then bif bif true then t == t2 else false then bif bif true then k == k2 else false then bif vev34_1 q lim t k order es ready then bif vev52_1 q2 lim2 t2 k2 Tk.imm l then true else false else false else true else true else true else false else false else false then some (true, AV.bool (bif vev35_1 q lim t k order es ready then bif vev73_1 Tk.imm (rev33_0 q lim t k order es ready q2 lim2 t2 k2 l) then bif vev72_1 Tk.imm (rev33_1 q lim t k order es ready q2 lim2 t2 k2 l) Tk.imm l then bif vev72_0 Tk.imm (rev33_1 q lim t k order es ready q2 lim2 t2 k2 l) Tk.imm l then bif bif true then t == t2 else false then bif bif true then k == k2 else false then bif vev34_1 q lim t k order es ready then bif vev52_1 q2 lim2 t2 k2 Tk.imm l then bif true then vev34_0 q lim t k order es ready == vev52_0 q2 lim2 t2 k2 Tk.imm l else false else false else false else false else false else false else false else false else false), (bS q lim ready t k order es)) else none) (by kernel_rfl) ?_
 unfold vev33_0 vev33_1
 generalize (vev72_1 _ _ _ _) = c0
 generalize (vev72_0 _ _ _ _) = c1
 generalize (vev73_1 _ _) = c2
 generalize (vev35_1 _ _ _ _ _ _ _) = c3
 generalize (vev34_1 _ _ _ _ _ _ _) = c4
 generalize (vev52_1 _ _ _ _ _ _) = c5
 generalize (k == k2) = c6
 generalize (t == t2) = c7
 cases c3; rfl; cases c2; rfl; cases c0; rfl; cases c1; rfl; cases c7; rfl; cases c6; rfl; cases c4; rfl; cases c5; rfl; rfl
noncomputable def sp33 : Sp
 | [.hp 0 0, .agg [.int .i64 q2, .int .i64 lim2, .sl .imm [.int .i64, .int .i64, .int .i64, .int .i64, .int .i64, .int .i64, .sl [.int .i64, .int .i64, .int .i64, .int .i64]] l, .int .i64 t2, .int .i64 k2]], [.var [.int .i64 q, .int .i64 lim, .rf 1 [.int .i64], .mp 2 [.int .i64, .int .i64, .int .i64, .int .i64, .int .i64, .int .i64, .sl [.int .i64, .int .i64, .int .i64, .int .i64]], .sl .imm [.int .i64, .int .i64] ready, .int .i64 t, .int .i64 k], .row [.int .i64] order, .tbl [.int .i64, .int .i64, .int .i64, .int .i64, .int .i64, .int .i64, .sl [.int .i64, .int .i64, .int .i64, .int .i64]] es none] => spW (vev33_1 q lim t k order es ready q2 lim2 t2 k2 l) (some ((true, AV.bool (vev33_0 q lim t k order es ready q2 lim2 t2 k2 l), [.row [] []])))
 | _, _ => none
noncomputable def k33 : Gam := spG 33 sp33 k73
theorem k33_ok : GamOK Try.prog k33 := spG_ok k73_ok fun T C r outs hs => by
   unfold sp33 at hs
   split at hs
   ·rename_i q2 lim2 l t2 k2 q lim ready t k order es
    obtain ⟨hb, rfl, rfl⟩ := spT_inv hs
    have he := ev33 q lim t k order es ready q2 lim2 t2 k2 l
    rw [hb, cond_true] at he
    obtain ⟨r0, o0, h0, he⟩ := evFin_inv he
    obtain ⟨h1, h2⟩ := fn_ok mixed plain (gk_ok k73_ok 30) Try.func33 (fun c _ => LoopsOK.none (fun _ _ => rfl) c) h0
    have h3 := h2.fin he
    exact ⟨h1, h3⟩
   ·cases hs
end Go.Proofs.Gv
namespace Go.Proofs.Gv
open Go.Proofs
theorem ev11 (q : Int) (l : Int) : evFun (cfg Try.prog tab 100000 (gk k33 30) noLsp 11 ([] : List Blk).length Try.f11.ntmps) Try.f11 [.int .i64 q, .int .i64 l] [] = bif bif !vev42_0 q (1 : Int) (1000 : Int) then true else true then bif bif !vev42_0 q (1 : Int) (1000 : Int) then true else bif false then true else !vev42_0 l (1 : Int) (1000 : Int) then some (AV.tup [AV.nilp, AV.int IntKind.i64 (8 : Int)], []) else some (AV.tup [AV.hp (nat_lit 0) (nat_lit 0), AV.int IntKind.i64 (0 : Int)], [Blk.var [AV.int IntKind.i64 q, AV.int IntKind.i64 l, AV.nil, AV.mp (nat_lit 1) [Kd.int IntKind.i64, Kd.int IntKind.i64, Kd.int IntKind.i64, Kd.int IntKind.i64, Kd.int IntKind.i64, Kd.int IntKind.i64, Kd.sl [Kd.int IntKind.i64, Kd.int IntKind.i64, Kd.int IntKind.i64, Kd.int IntKind.i64]], AV.nil, AV.int IntKind.i64 (0 : Int), AV.int IntKind.i64 (0 : Int)], Blk.tbl [Kd.int IntKind.i64, Kd.int IntKind.i64, Kd.int IntKind.i64, Kd.int IntKind.i64, Kd.int IntKind.i64, Kd.int IntKind.i64, Kd.sl [Kd.int IntKind.i64, Kd.int IntKind.i64, Kd.int IntKind.i64, Kd.int IntKind.i64]] [] none]) else none := by kernel_rfl
end Go.Proofs.Gv
namespace Go.Proofs.Gv
open Go.Proofs
def okN (q l : Int) : Bool := decide (1 ≤ q) && (decide (q ≤ 1000) && (decide (1 ≤ l) && decide (l ≤ 1000)))
theorem okN_iff {q l : Int} : okN q l = true ↔ (1 ≤ q ∧ q ≤ 1000) ∧ (1 ≤ l ∧ l ≤ 1000) := by
 simp [okN, and_assoc]
abbrev kdFl : List Kd := [.int .i64, .int .i64, .int .i64, .int .i64, .int .i64, .int .i64, .sl [.int .i64, .int .i64, .int .i64, .int .i64]]
theorem in_fair (n : Int) : vev42_0 n 1 1000 = (decide (1 ≤ n) && decide (n ≤ 1000)) := by
 unfold vev42_0
 cases decide (1 ≤ n) <;> rfl
theorem new11 (q l : Int) : Enters Try.prog 11 ∧ (okN q l = false → FnOK Try.prog 11 [.int .i64 q, .int .i64 l] [] (.tup [.nilp, .int .i64 8]) []) ∧
  (okN q l = true → FnOK Try.prog 11 [.int .i64 q, .int .i64 l] [] (.tup [.hp 0 0, .int .i64 0]) [.var [.int .i64 q, .int .i64 l, .nil, .mp 1 kdFl, .nil, .int .i64 0, .int .i64 0], .tbl kdFl [] none]) := by
 have he := ev11 q l
 have key : ∀ {r : AV} {outs : List Blk}, evFun (cfg Try.prog tab 100000 (gk k33 30) noLsp 11 ([] : List Blk).length Try.f11.ntmps) Try.f11 [.int .i64 q, .int .i64 l] [] = some (r, outs) → Enters Try.prog 11 ∧ FnOK Try.prog 11 [.int .i64 q, .int .i64 l] [] r outs :=
  fun h => fn_ok mixed plain (gk_ok k33_ok 30) Try.func11 (fun c _ => LoopsOK.none (fun _ _ => rfl) c) h
 rw [in_fair, in_fair] at he
 unfold okN
 generalize decide (1 ≤ q) = a at *
 generalize decide (q ≤ 1000) = b at *
 generalize decide (1 ≤ l) = c at *
 generalize decide (l ≤ 1000) = d at *
 cases a <;> cases b <;> cases c <;> cases d <;> simp only [Bool.and_true, Bool.and_false, Bool.true_and, Bool.false_and, Bool.not_true, Bool.not_false, cond_true, cond_false] at he <;>
  (refine ⟨(key he).1, fun h => ?_, fun h => ?_⟩ <;> first | exact (key he).2 | exact absurd h (by decide))
theorem new12 (q l : Int) : Enters Try.prog 12 ∧ (okN q l = false → FnOK Try.prog 12 [.int .i64 q, .int .i64 l] [] (.tup [.agg [.int .i64 0, .int .i64 0, .sl .imm kdFl [], .int .i64 0, .int .i64 0], .int .i64 8]) []) ∧
  (okN q l = true → FnOK Try.prog 12 [.int .i64 q, .int .i64 l] [] (.tup [.agg [.int .i64 q, .int .i64 l, .sl .imm kdFl [], .int .i64 0, .int .i64 0], .int .i64 0]) []) := by
 have h := k12_ok 12 [.int .i64 q, .int .i64 l] [] _ _ (show k12 12 [.int .i64 q, .int .i64 l] [] = some (true, AV.tup [AV.agg [AV.int IntKind.i64 (vev12_0 q l), AV.int IntKind.i64 (vev12_1 q l), AV.sl Tk.imm kdFl [], AV.int IntKind.i64 0, AV.int IntKind.i64 0], AV.int IntKind.i64 (vev12_2 q l)], []) from rfl)
 refine ⟨h.1, fun hk => ?_, fun hk => ?_⟩
 ·have hc : (bif decide (q < (1 : Int)) then true else bif decide (q > (1000 : Int)) then true else bif decide (l < (1 : Int)) then true else decide (l > (1000 : Int))) = true := by
   have : ¬ ((1 ≤ q ∧ q ≤ 1000) ∧ (1 ≤ l ∧ l ≤ 1000)) := fun hh => by rw [← okN_iff, hk] at hh; cases hh
   cases h1 : decide (q < 1) <;> cases h2 : decide (q > 1000) <;> cases h3 : decide (l < 1) <;> cases h4 : decide (l > 1000) <;> simp_all <;> omega
  have h2 := h.2
  unfold vev12_0 vev12_1 vev12_2 at h2
  rw [hc] at h2
  exact h2
 ·have hc : (bif decide (q < (1 : Int)) then true else bif decide (q > (1000 : Int)) then true else bif decide (l < (1 : Int)) then true else decide (l > (1000 : Int))) = false := by
   have := okN_iff.1 hk
   rw [decide_eq_false (by omega), decide_eq_false (by omega), decide_eq_false (by omega), decide_eq_false (by omega)]
   rfl
  have h2 := h.2
  unfold vev12_0 vev12_1 vev12_2 at h2
  rw [hc] at h2
  exact h2
noncomputable def sp11A : List AV → List Blk → Option (Bool × AV × List Blk)
 | [.int .i64 q, .int .i64 l], [] => some (!okN q l, .tup [.nilp, .int .i64 8], [])
 | _, _ => none
noncomputable def sp12A : List AV → List Blk → Option (Bool × AV × List Blk)
 | [.int .i64 q, .int .i64 l], [] => some (!okN q l, .tup [.agg [.int .i64 0, .int .i64 0, .sl .imm kdFl [], .int .i64 0, .int .i64 0], .int .i64 8], [])
 | _, _ => none
noncomputable def sp11B : List AV → List Blk → Option (Bool × AV × List Blk)
 | [.int .i64 q, .int .i64 l], [] => some (okN q l, .tup [.hp 0 0, .int .i64 0], [.var [.int .i64 q, .int .i64 l, .nil, .mp 1 kdFl, .nil, .int .i64 0, .int .i64 0], .tbl kdFl [] none])
 | _, _ => none
noncomputable def sp12B : List AV → List Blk → Option (Bool × AV × List Blk)
 | [.int .i64 q, .int .i64 l], [] => some (okN q l, .tup [.agg [.int .i64 q, .int .i64 l, .sl .imm kdFl [], .int .i64 0, .int .i64 0], .int .i64 0], [])
 | _, _ => none
noncomputable def kA : Gam := spG 11 sp11A (spG 12 sp12A k33)
noncomputable def kB : Gam := spG 11 sp11B (spG 12 sp12B k33)
theorem kB_ok : GamOK Try.prog kB := by
 refine spG_ok (spG_ok k33_ok ?_) ?_
 ·intro T C r outs h
  unfold sp12B at h
  split at h
  ·rename_i q l
   simp only [Option.some.injEq, Prod.mk.injEq] at h
   obtain ⟨h1, rfl, rfl⟩ := h
   exact ⟨(new12 q l).1, (new12 q l).2.2 h1⟩
  ·cases h
 ·intro T C r outs h
  unfold sp11B at h
  split at h
  ·rename_i q l
   simp only [Option.some.injEq, Prod.mk.injEq] at h
   obtain ⟨h1, rfl, rfl⟩ := h
   exact ⟨(new11 q l).1, (new11 q l).2.2 h1⟩
  ·cases h
end Go.Proofs.Gv
