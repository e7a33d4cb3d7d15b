import Derived.Test.YthnbpgiohimkoaaPw32
import Derived.Test.YthnbpgiohimkoaaPw35
import Derived.Test.YthnbpgiohimkoaaPw27
import Derived.KernelRfl
import Derived.Test.YthnbpgiohimkoaaPw30
import Derived.Test.YthnbpgiohimkoaaPw31
import Derived.Test.YthnbpgiohimkoaaPw38
set_option linter.unusedVariables false
namespace Go.Proofs.Gv
open Go.Proofs
noncomputable def vev58_0 (n : Int) : Bool := bif decide (n ≥ 0) then bif true then decide (n ≤ 1099511627776) else false else false
theorem ev58 (n : Int) : eF kB noLsp 58 Try.f58 [iA n] [] = bif true then some (true, AV.bool (vev58_0 n), []) else none := by
 refine Eq.trans (b := bif bif decide (n ≥ 0) then true else true then some (true, AV.bool (bif decide (n ≥ 0) then bif true then decide (n ≤ 1099511627776) else false else false), []) else none) (by kernel_rfl) ?_
 unfold vev58_0
 generalize (decide (n ≥ 0)) = c0
 cases c0
 ·skip
  rfl
 ·skip
  rfl
noncomputable def sp58 : Sp
 | [.int .i64 n], [] => spW (true) (some ((true, AV.bool (vev58_0 n), [])))
 | _, _ => none
noncomputable def k58 : Gam := spG 58 sp58 kB
theorem k58_ok : GamOK Try.prog k58 := spG_ok kB_ok fun T C r outs hs => by
   unfold sp58 at hs
   split at hs
   ·rename_i n
    obtain ⟨hb, rfl, rfl⟩ := spT_inv hs
    have he := ev58 n
    obtain ⟨r0, o0, h0, he⟩ := evFin_inv he
    obtain ⟨h1, h2⟩ := fn_ok mixed plain (gk_ok kB_ok 30) Try.func58 (fun c _ => LoopsOK.none (fun _ _ => rfl) c) h0
    exact ⟨h1, h2.fin he⟩
   ·cases hs
noncomputable def rn20_5_0 (a : LL) (b c : Int) (d e : LL) (f : Int) : Int := intOf ((a.getD c.toNat []).getD 0 AV.junk)
noncomputable def rn20_5_1 (a : LL) (b c : Int) (d e : LL) (f : Int) : Int := intOf ((e.getD c.toNat []).getD 0 AV.junk)
noncomputable def go20_5 (a : LL) (b c : Int) (d e : LL) (f : Int) : Bool := bif decide (c < b) then bif decide (0 ≤ c) && decide (c < (↑a.length : Int)) then bif bif !vev58_0 (rn20_5_0 a b c d e f) then true else bif decide (0 ≤ c) && decide (c < (↑e.length : Int)) then bif !vev58_0 (rn20_5_1 a b c d e f) then true else decide (0 ≤ c) && decide (c < (↑e.length : Int)) else false then bif bif !vev58_0 (rn20_5_0 a b c d e f) then true else bif decide (0 ≤ c) && decide (c < (↑e.length : Int)) then bif !vev58_0 (rn20_5_1 a b c d e f) then true else bif decide (0 ≤ c) && decide (c < (↑e.length : Int)) then decide (rn20_5_1 a b c d e f > rn20_5_0 a b c d e f) else false else false then false else true else false else false else false
noncomputable def nx20_5_2 (a : LL) (b c : Int) (d e : LL) (f : Int) : Int := IntKind.i64.wrap (c + 1)
noncomputable def xc20_5_0 (a : LL) (b c : Int) (d e : LL) (f : Int) : Bool := bif decide (c < b) then bif decide (0 ≤ c) && decide (c < (↑a.length : Int)) then bif bif !vev58_0 (rn20_5_0 a b c d e f) then true else bif decide (0 ≤ c) && decide (c < (↑e.length : Int)) then bif !vev58_0 (rn20_5_1 a b c d e f) then true else decide (0 ≤ c) && decide (c < (↑e.length : Int)) else false then bif !vev58_0 (rn20_5_0 a b c d e f) then true else bif decide (0 ≤ c) && decide (c < (↑e.length : Int)) then bif !vev58_0 (rn20_5_1 a b c d e f) then true else bif decide (0 ≤ c) && decide (c < (↑e.length : Int)) then decide (rn20_5_1 a b c d e f > rn20_5_0 a b c d e f) else false else false else false else false else false
noncomputable def xc20_5_1 (a : LL) (b c : Int) (d e : LL) (f : Int) : Bool := bif decide (c < b) then false else true
theorem rd20_5 (rest : Lsp) (a : LL) (b c : Int) (d e : LL) (f : Int) : rV k58 rest 20 0 Try.f20 5 [1, 29, 30, 31] [0] [2] [] [AV.hp 0 0, AV.sl Tk.imm kI1 a, iA b, iA c] [Blk.var [AV.sl Tk.imm kI1 d, AV.sl Tk.imm kI1 e, iA f]] = bif go20_5 a b c d e f then some (Ex.norm, [AV.hp 0 0, AV.sl Tk.imm kI1 a, iA b, iA (nx20_5_2 a b c d e f)], [Blk.var [AV.sl Tk.imm kI1 d, AV.sl Tk.imm kI1 e, iA f]]) else bif xc20_5_0 a b c d e f then some (Ex.ret, [iA 8], []) else bif xc20_5_1 a b c d e f then some (Ex.exit 0, [AV.junk], []) else none := by
 refine Eq.trans (b := bif decide (c < b) then bif decide (0 ≤ c) && decide (c < (↑a.length : Int)) then bif bif !vev58_0 (rn20_5_0 a b c d e f) then true else bif decide (0 ≤ c) && decide (c < (↑e.length : Int)) then bif bif false then true else !vev58_0 (rn20_5_1 a b c d e f) then true else bif decide (0 ≤ c) && decide (c < (↑e.length : Int)) then true else false else false then bif bif !vev58_0 (rn20_5_0 a b c d e f) then true else bif decide (0 ≤ c) && decide (c < (↑e.length : Int)) then bif bif false then true else !vev58_0 (rn20_5_1 a b c d e f) then true else bif decide (0 ≤ c) && decide (c < (↑e.length : Int)) then bif false then true else decide (rn20_5_1 a b c d e f > rn20_5_0 a b c d e f) else false else false then some (Ex.ret, [iA 8], []) else some (Ex.norm, [AV.hp 0 0, AV.sl Tk.imm kI1 a, iA b, iA (IntKind.i64.wrap (c + 1))], [Blk.var [AV.sl Tk.imm kI1 d, AV.sl Tk.imm kI1 e, iA f]]) else none else none else some (Ex.exit 0, [AV.junk], [])) (by kernel_rfl) ?_
 unfold go20_5 nx20_5_2 xc20_5_0 xc20_5_1
 generalize (decide (0 ≤ c) && decide (c < (↑e.length : Int))) = c0
 generalize (decide (0 ≤ c) && decide (c < (↑a.length : Int))) = c1
 generalize (decide (rn20_5_1 a b c d e f > rn20_5_0 a b c d e f)) = c2
 generalize (decide (c < b)) = c3
 generalize (!vev58_0 (rn20_5_0 a b c d e f)) = c4
 generalize (!vev58_0 (rn20_5_1 a b c d e f)) = c5
 cases c3; rfl; cases c1; rfl; cases c4; cases c0; rfl; cases c5; cases c2; rfl; rfl; rfl; rfl
abbrev pl20_5 : Type := LL × Int × LL × LL × Int
abbrev sl20_5 : Type := Int
noncomputable def vt20_5 (a : pl20_5 × sl20_5) : List AV := [AV.hp 0 0, AV.sl Tk.imm kI1 a.1.1, iA a.1.2.1, iA a.2]
noncomputable def vc20_5 (a : pl20_5 × sl20_5) : List Blk := [Blk.var [AV.sl Tk.imm kI1 a.1.2.2.1, AV.sl Tk.imm kI1 a.1.2.2.2.1, iA a.1.2.2.2.2]]
noncomputable def de20_5 (vt : List AV) (vc : List Blk) : Option (pl20_5 × sl20_5) :=
 match vt with
 | [qa0, qa1, qa2, qa3] => (match vc with
 | [qb0] => (match qa0 with
 | AV.hp (0) (0) => (match qa1 with
 | .sl Tk.imm [.int .i64] t29 => (match qa2 with
 | .int .i64 t30 => (match qa3 with
 | .int .i64 t31 => (match qb0 with
 | .var [.sl Tk.imm [.int .i64] b0_0, .sl Tk.imm [.int .i64] b0_1, .int .i64 b0_2] => (some ((t29, t30, b0_0, b0_1, b0_2), t31))
 | _ => none)
 | _ => none)
 | _ => none)
 | _ => none)
 | _ => none)
 | _ => none)
 | _ => none
theorem de20_5_ok (vt : List AV) (vc : List Blk) (a : pl20_5 × sl20_5) (h : de20_5 vt vc = some a) : vt = vt20_5 a ∧ vc = vc20_5 a := by
 unfold de20_5 at h
 iterate 7 (split at h; rotate_left; · cases h)
 injection h with h; subst h; exact ⟨rfl, rfl⟩
noncomputable def g20_5 (p : pl20_5) (s : sl20_5) : Bool := go20_5 p.1 p.2.1 s p.2.2.1 p.2.2.2.1 p.2.2.2.2
noncomputable def n20_5 (p : pl20_5) (s : sl20_5) : sl20_5 := nx20_5_2 p.1 p.2.1 s p.2.2.1 p.2.2.2.1 p.2.2.2.2
noncomputable def y20_5 (p : pl20_5) (s : sl20_5) : List (Bool × Out) := [(xc20_5_0 p.1 p.2.1 s p.2.2.1 p.2.2.2.1 p.2.2.2.2, (Ex.ret, [iA 8], []))]
noncomputable def z20_5 (p : pl20_5) (s : sl20_5) : Bool := xc20_5_1 p.1 p.2.1 s p.2.2.1 p.2.2.2.1 p.2.2.2.2
noncomputable def d20_5 (p : pl20_5) (s : sl20_5) : Out := (Ex.exit 0, [AV.junk], [])
noncomputable def ls20_5 := lspOf [1, 29, 30, 31] [0] [2] [] Try.f20.ntmps (0 + tab.nid 20) de20_5 (spI g20_5 n20_5 y20_5 z20_5 d20_5)
theorem lo20_5 (rest : Lsp) : lO k58 (selL 5 ls20_5 rest) 20 0 Try.f20 5 := LoopOK1.iter (i := 5) (by kernel_rfl) [1, 29, 30, 31] [0] [2] [] vt20_5 vc20_5 de20_5 g20_5 n20_5 y20_5 z20_5 d20_5 (fun _ => rfl) de20_5_ok (fun p s => rd20_5 (selL 5 ls20_5 rest) (p.1) (p.2.1) s (p.2.2.1) (p.2.2.2.1) (p.2.2.2.2)) (fun _ _ => rfl)
noncomputable def lsp20 : Lsp := (selL 5 ls20_5 noLsp)
theorem loops20 : ∀ c, Try.f20.body = some c → lsO k58 lsp20 20 0 Try.f20 c := loops_of [5] (by kernel_rfl) (by kernel_rfl) (fun i hi => by simp only [List.mem_cons, List.not_mem_nil, or_false] at hi; subst hi; exact lo20_5 noLsp)
noncomputable def rev20_0 (us ss : LL) (d : Int) : sl20_5 := finL (g20_5 (us, (↑us.length : Int), us, ss, d)) (n20_5 (us, (↑us.length : Int), us, ss, d)) 0
noncomputable def vev20_0 (us ss : LL) (d : Int) : Int := bif bif decide ((↑us.length : Int) < 1) then true else bif decide ((↑us.length : Int) > 8) then true else bif (↑us.length : Int) != (↑ss.length : Int) then true else !vev58_0 d then 8 else bif xc20_5_0 us (↑us.length : Int) (rev20_0 us ss d) us ss d then 8 else 0
noncomputable def vev20_1 (us ss : LL) (d : Int) : Bool := bif bif decide ((↑us.length : Int) < 1) then true else bif decide ((↑us.length : Int) > 8) then true else bif (↑us.length : Int) != (↑ss.length : Int) then true else !vev58_0 d then true else bif (spI g20_5 n20_5 y20_5 z20_5 d20_5 ((us, (↑us.length : Int), us, ss, d), 0)).fst then true else false
theorem ev20 (us ss : LL) (d : Int) : eF k58 lsp20 20 Try.f20 [.agg [.sl .imm kI1 us, .sl .imm kI1 ss, iA d]] [] = bif vev20_1 us ss d then some (true, iA (vev20_0 us ss d), []) else none := by
 refine Eq.trans (b := bif bif decide ((↑us.length : Int) < 1) then true else bif bif false then true else decide ((↑us.length : Int) > 8) then true else bif bif false then true else (↑us.length : Int) != (↑ss.length : Int) then true else true then bif bif decide ((↑us.length : Int) < 1) then true else bif bif false then true else decide ((↑us.length : Int) > 8) then true else bif bif false then true else (↑us.length : Int) != (↑ss.length : Int) then true else bif false then true else !vev58_0 d then some (true, iA 8, []) else bif (spI g20_5 n20_5 y20_5 z20_5 d20_5 ((us, (↑us.length : Int), us, ss, d), 0)).fst then bif xc20_5_0 us (↑us.length : Int) (rev20_0 us ss d) us ss d then some (true, iA 8, []) else some (true, iA 0, []) else none else none) (by kernel_rfl) ?_
 unfold vev20_0 vev20_1
 generalize (spI g20_5 _ _ _ _ _).fst = c0
 generalize (decide ((↑us.length : Int) > 8)) = c1
 generalize (decide ((↑us.length : Int) < 1)) = c2
 generalize ((↑us.length : Int) != (↑ss.length : Int)) = c3
 generalize (xc20_5_0 _ _ _ _ _ _) = c4
 generalize (!vev58_0 _) = c5
 cases c2; cases c1; cases c3; cases c5; cases c0; rfl; cases c4; rfl; rfl; rfl; rfl; rfl; rfl
noncomputable def sp20 : Sp
 | [.agg [.sl .imm [.int .i64] us, .sl .imm [.int .i64] ss, .int .i64 d]], [] => spW (vev20_1 us ss d) (some ((true, iA (vev20_0 us ss d), [])))
 | _, _ => none
noncomputable def k20 : Gam := spG 20 sp20 k58
theorem k20_ok : GamOK Try.prog k20 := spG_ok k58_ok fun T C r outs hs => by
   unfold sp20 at hs
   split at hs
   ·exact okE k58_ok Try.func20 loops20 (ev20 _ _ _) hs
   ·cases hs
noncomputable def go22_5 (a : Int) (b : LL) (c d : Int) : Bool := bif decide (d < c) then decide (0 ≤ d) && decide (d < (↑b.length : Int)) else false
noncomputable def nx22_5_0 (a : Int) (b : LL) (c d : Int) : Int := IntKind.i64.wrap (a + intOf ((b.getD d.toNat []).getD 0 AV.junk))
noncomputable def nx22_5_3 (a : Int) (b : LL) (c d : Int) : Int := IntKind.i64.wrap (d + 1)
noncomputable def xc22_5_0 (a : Int) (b : LL) (c d : Int) : Bool := bif decide (d < c) then false else true
theorem rd22_5 (rest : Lsp) (a : Int) (b : LL) (c d : Int) : rV k20 rest 22 0 Try.f22 5 [3, 10, 11, 12] [] [3] [] [iA a, AV.sl Tk.imm kI1 b, iA c, iA d] [] = bif go22_5 a b c d then some (Ex.norm, [iA (nx22_5_0 a b c d), AV.sl Tk.imm kI1 b, iA c, iA (nx22_5_3 a b c d)], []) else bif xc22_5_0 a b c d then some (Ex.exit 0, [iA a], []) else none := by
 refine Eq.trans (b := bif decide (d < c) then bif decide (0 ≤ d) && decide (d < (↑b.length : Int)) then some (Ex.norm, [iA (IntKind.i64.wrap (a + intOf ((b.getD d.toNat []).getD 0 AV.junk))), AV.sl Tk.imm kI1 b, iA c, iA (IntKind.i64.wrap (d + 1))], []) else none else some (Ex.exit 0, [iA a], [])) (by kernel_rfl) ?_
 unfold go22_5 nx22_5_0 nx22_5_3 xc22_5_0
 generalize (decide (0 ≤ d) && decide (d < (↑b.length : Int))) = c0
 generalize (decide (d < c)) = c1
 cases c1; rfl; cases c0; rfl; rfl
abbrev pl22_5 : Type := LL × Int
abbrev sl22_5 : Type := Int × Int
noncomputable def vt22_5 (a : pl22_5 × sl22_5) : List AV := [iA a.2.1, AV.sl Tk.imm kI1 a.1.1, iA a.1.2, iA a.2.2]
noncomputable def vc22_5 (a : pl22_5 × sl22_5) : List Blk := []
noncomputable def de22_5 (vt : List AV) (vc : List Blk) : Option (pl22_5 × sl22_5) :=
 match vt with
 | [qa0, qa1, qa2, qa3] => (match vc with
 | [] => (match qa0 with
 | .int .i64 t3 => (match qa1 with
 | .sl Tk.imm [.int .i64] t10 => (match qa2 with
 | .int .i64 t11 => (match qa3 with
 | .int .i64 t12 => (some ((t10, t11), (t3, t12)))
 | _ => none)
 | _ => none)
 | _ => none)
 | _ => none)
 | _ => none)
 | _ => none
theorem de22_5_ok (vt : List AV) (vc : List Blk) (a : pl22_5 × sl22_5) (h : de22_5 vt vc = some a) : vt = vt22_5 a ∧ vc = vc22_5 a := by
 unfold de22_5 at h
 iterate 6 (split at h; rotate_left; · cases h)
 injection h with h; subst h; exact ⟨rfl, rfl⟩
noncomputable def g22_5 (p : pl22_5) (s : sl22_5) : Bool := go22_5 s.1 p.1 p.2 s.2
noncomputable def n22_5 (p : pl22_5) (s : sl22_5) : sl22_5 := (nx22_5_0 s.1 p.1 p.2 s.2, nx22_5_3 s.1 p.1 p.2 s.2)
noncomputable def y22_5 (p : pl22_5) (s : sl22_5) : List (Bool × Out) := []
noncomputable def z22_5 (p : pl22_5) (s : sl22_5) : Bool := xc22_5_0 s.1 p.1 p.2 s.2
noncomputable def d22_5 (p : pl22_5) (s : sl22_5) : Out := (Ex.exit 0, [iA s.1], [])
noncomputable def ls22_5 := lspOf [3, 10, 11, 12] [] [3] [] Try.f22.ntmps (0 + tab.nid 22) de22_5 (spI g22_5 n22_5 y22_5 z22_5 d22_5)
theorem lo22_5 (rest : Lsp) : lO k20 (selL 5 ls22_5 rest) 22 0 Try.f22 5 := LoopOK1.iter (i := 5) (by kernel_rfl) [3, 10, 11, 12] [] [3] [] vt22_5 vc22_5 de22_5 g22_5 n22_5 y22_5 z22_5 d22_5 (fun _ => rfl) de22_5_ok (fun p s => rd22_5 (selL 5 ls22_5 rest) (s.1) (p.1) (p.2) (s.2)) (fun _ _ => rfl)
noncomputable def lsp22 : Lsp := (selL 5 ls22_5 noLsp)
theorem loops22 : ∀ c, Try.f22.body = some c → lsO k20 lsp22 22 0 Try.f22 c := loops_of [5] (by kernel_rfl) (by kernel_rfl) (fun i hi => by simp only [List.mem_cons, List.not_mem_nil, or_false] at hi; subst hi; exact lo22_5 noLsp)
noncomputable def rev22_0 (us ss : LL) (d : Int) : sl22_5 := finL (g22_5 (us, (↑us.length : Int))) (n22_5 (us, (↑us.length : Int))) (0, 0)
noncomputable def vev22_0 (us ss : LL) (d : Int) : Int := bif vev20_0 us ss d != 0 then 0 else (rev22_0 us ss d).fst
noncomputable def vev22_1 (us ss : LL) (d : Int) : Bool := bif vev20_1 us ss d then bif vev20_0 us ss d != 0 then true else bif (spI g22_5 n22_5 y22_5 z22_5 d22_5 ((us, (↑us.length : Int)), 0, 0)).fst then true else false else false
theorem ev22 (us ss : LL) (d : Int) : eF k20 lsp22 22 Try.f22 [.agg [.sl .imm kI1 us, .sl .imm kI1 ss, iA d]] [] = bif vev22_1 us ss d then some (true, iA (vev22_0 us ss d), []) else none := by
 refine Eq.trans (b := bif vev20_1 us ss d then bif vev20_0 us ss d != 0 then some (true, iA 0, []) else bif (spI g22_5 n22_5 y22_5 z22_5 d22_5 ((us, (↑us.length : Int)), 0, 0)).fst then some (true, iA (rev22_0 us ss d).fst, []) else none else none) (by kernel_rfl) ?_
 unfold vev22_0 vev22_1
 generalize (spI g22_5 _ _ _ _ _).fst = c0
 generalize (vev20_0 us ss d != 0) = c1
 generalize (vev20_1 _ _ _) = c2
 cases c2; rfl; cases c1; cases c0; rfl; rfl; rfl
noncomputable def sp22 : Sp
 | [.agg [.sl .imm [.int .i64] us, .sl .imm [.int .i64] ss, .int .i64 d]], [] => spW (vev22_1 us ss d) (some ((true, iA (vev22_0 us ss d), [])))
 | _, _ => none
noncomputable def k22 : Gam := spG 22 sp22 k20
theorem k22_ok : GamOK Try.prog k22 := spG_ok k20_ok fun T C r outs hs => by
   unfold sp22 at hs
   split at hs
   ·exact okE k20_ok Try.func22 loops22 (ev22 _ _ _) hs
   ·cases hs
noncomputable def rev76_0 (us ss : LL) (d w : Int) : Int := intOf ((us.getD w.toNat []).getD 0 AV.junk)
noncomputable def vev76_0 (us ss : LL) (d w : Int) : Bool := bif vev20_1 us ss d then bif vev20_0 us ss d == 0 then bif bif true then decide (w ≥ 0) else false then bif bif true then decide (w < (↑us.length : Int)) else false then bif decide (0 ≤ w) && decide (w < (↑us.length : Int)) then bif true then decide (rev76_0 us ss d w ≤ 1099511626776) else false else false else false else false else false else false
noncomputable def vev76_1 (us ss : LL) (d w : Int) : Bool := bif bif vev20_1 us ss d then bif vev20_0 us ss d == 0 then bif decide (w ≥ 0) then bif decide (w < (↑us.length : Int)) then decide (0 ≤ w) && decide (w < (↑us.length : Int)) else true else true else true else false then true else false
theorem ev76 (us ss : LL) (d w : Int) : eF k22 noLsp 76 Try.f76 [.agg [.sl .imm kI1 us, .sl .imm kI1 ss, iA d], iA w] [] = bif vev76_1 us ss d w then some (true, AV.bool (vev76_0 us ss d w), []) else none := by
 refine Eq.trans (b := bif bif vev20_1 us ss d then bif vev20_0 us ss d == 0 then bif bif true then decide (w ≥ 0) else false then bif bif true then decide (w < (↑us.length : Int)) else false then bif decide (0 ≤ w) && decide (w < (↑us.length : Int)) then true else false else true else true else true else false then some (true, AV.bool (bif vev20_1 us ss d then bif vev20_0 us ss d == 0 then bif bif true then decide (w ≥ 0) else false then bif bif true then decide (w < (↑us.length : Int)) else false then bif decide (0 ≤ w) && decide (w < (↑us.length : Int)) then bif true then decide (rev76_0 us ss d w ≤ 1099511626776) else false else false else false else false else false else false), []) else none) (by kernel_rfl) ?_
 unfold vev76_0 vev76_1
 generalize (decide (0 ≤ w) && decide (w < (↑us.length : Int))) = c0
 generalize (decide (w < (↑us.length : Int))) = c1
 generalize (decide (w ≥ 0)) = c2
 generalize (vev20_0 us ss d == 0) = c3
 generalize (vev20_1 _ _ _) = c4
 cases c4; rfl; cases c3; rfl; cases c2; rfl; cases c1; rfl; cases c0; rfl; rfl
noncomputable def sp76 : Sp
 | [.agg [.sl .imm [.int .i64] us, .sl .imm [.int .i64] ss, .int .i64 d], .int .i64 w], [] => spW (vev76_1 us ss d w) (some ((true, AV.bool (vev76_0 us ss d w), [])))
 | _, _ => none
noncomputable def k76 : Gam := spG 76 sp76 k22
theorem k76_ok : GamOK Try.prog k76 := spG_ok k22_ok fun T C r outs hs => by
   unfold sp76 at hs
   split at hs
   ·exact okE k22_ok Try.func76 (fun c _ => LoopsOK.none (fun _ _ => rfl) c) (ev76 _ _ _ _) hs
   ·cases hs
noncomputable def vev56_0 (us ss : LL) (d : Int) : Bool := bif (us.length * 8).ble 140737488355328 then bif (ss.length * 8).ble 140737488355328 then true else false else false
theorem ev56 (us ss : LL) (d : Int) : evFun (cfg Try.prog tab 100000 (gk k76 30) noLsp 56 ([] : List Blk).length Try.f56.ntmps) Try.f56 [.agg [.sl .imm kI1 us, .sl .imm kI1 ss, iA d]] [] = bif vev56_0 us ss d then some (AV.agg [AV.rf 0 kI1, AV.rf 1 kI1, iA d], [Blk.row kI1 us, Blk.row kI1 ss]) else none := by
 refine Eq.trans (b := bif (us.length * 8).ble 140737488355328 then bif (ss.length * 8).ble 140737488355328 then some (AV.agg [AV.rf 0 kI1, AV.rf 1 kI1, iA d], [Blk.row kI1 us, Blk.row kI1 ss]) else none else none) (by kernel_rfl) ?_
 unfold vev56_0
 generalize ((ss.length * 8).ble 140737488355328) = c0
 generalize ((us.length * 8).ble 140737488355328) = c1
 cases c1; rfl; cases c0; rfl; rfl
noncomputable def sp56 : Sp
 | [.agg [.sl .imm [.int .i64] us, .sl .imm [.int .i64] ss, .int .i64 d]], [] => spW (vev56_0 us ss d) (fin Try.prog (tab.frz 56) ([] : List Blk).length Try.f56.resultTypes.toList (some ((AV.agg [AV.rf 0 kI1, AV.rf 1 kI1, iA d], [Blk.row kI1 us, Blk.row kI1 ss]))))
 | _, _ => none
noncomputable def k56 : Gam := spG 56 sp56 k76
theorem k56_ok : GamOK Try.prog k56 := spG_ok k76_ok fun T C r outs hs => by
   unfold sp56 at hs
   split at hs
   ·rename_i us ss d
    obtain ⟨hb, hs⟩ := spW_inv hs
    have he := ev56 us ss d
    rw [hb, cond_true] at he
    obtain ⟨h1, h2⟩ := fn_ok mixed plain (gk_ok k76_ok 30) Try.func56 (fun c _ => LoopsOK.none (fun _ _ => rfl) c) he
    exact ⟨h1, h2.fin hs⟩
   ·cases hs
theorem ev31n : eF k56 noLsp 31 Try.f31 [.nilp] [] = some (true, AV.tup [AV.agg [iA 0, iA 0, iA 0, iA 0], AV.bool false], []) := by kernel_rfl
noncomputable def sp31n : Sp
 | [.nilp], [] => spW (true) (some ((true, AV.tup [AV.agg [iA 0, iA 0, iA 0, iA 0], AV.bool false], [])))
 | _, _ => none
noncomputable def k31n : Gam := spG 31 sp31n k56
theorem k31n_ok : GamOK Try.prog k31n := spG_ok k56_ok fun T C r outs hs => by
   unfold sp31n at hs
   split at hs
   ·obtain ⟨hb, rfl, rfl⟩ := spT_inv hs
    have he := ev31n
    obtain ⟨r0, o0, h0, he⟩ := evFin_inv he
    obtain ⟨h1, h2⟩ := fn_ok mixed plain (gk_ok k56_ok 30) Try.func31 (fun c _ => LoopsOK.none (fun _ _ => rfl) c) h0
    exact ⟨h1, h2.fin he⟩
   ·cases hs
noncomputable def rev39n_0 (us ss : LL) (d w : Int) : Int := IntKind.i64.wrap (d + 1)
noncomputable def vev39n_0 (us ss : LL) (d w : Int) : Int := bif !vev76_0 us ss d w then d else if if false = true then rev39n_0 us ss d w < 1099511627776 else 1099511627776 < rev39n_0 us ss d w then 1099511627776 else rev39n_0 us ss d w
noncomputable def vev39n_1 (us ss : LL) (d w : Int) : Bool := bif vev56_0 us ss d then bif vev76_1 us ss d w then true else false else false
theorem ev39n (us ss : LL) (d w : Int) : eF k31n noLsp 39 Try.f39 [.agg [.sl .imm kI1 us, .sl .imm kI1 ss, iA d], .nilp, iA w] [] = bif vev39n_1 us ss d w then some (true, AV.tup [AV.agg [AV.sl Tk.imm kI1 us, AV.sl Tk.imm kI1 ss, iA (vev39n_0 us ss d w)], AV.agg [iA 0, iA 0, iA 0, iA 0], AV.bool false], []) else none := by
 refine Eq.trans (b := bif vev56_0 us ss d then bif vev76_1 us ss d w then bif !vev76_0 us ss d w then some (true, AV.tup [AV.agg [AV.sl Tk.imm kI1 us, AV.sl Tk.imm kI1 ss, iA d], AV.agg [iA 0, iA 0, iA 0, iA 0], AV.bool false], []) else some (true, AV.tup [AV.agg [AV.sl Tk.imm kI1 us, AV.sl Tk.imm kI1 ss, iA (if if false = true then rev39n_0 us ss d w < 1099511627776 else 1099511627776 < rev39n_0 us ss d w then 1099511627776 else rev39n_0 us ss d w)], AV.agg [iA 0, iA 0, iA 0, iA 0], AV.bool false], []) else none else none) (by kernel_rfl) ?_
 unfold vev39n_0 vev39n_1
 generalize (!vev76_0 _ _ _ _) = c0
 generalize (vev76_1 _ _ _ _) = c1
 generalize (vev56_0 _ _ _) = c2
 cases c2; rfl; cases c1; rfl; cases c0; rfl; rfl
noncomputable def sp39n : Sp
 | [.agg [.sl .imm [.int .i64] us, .sl .imm [.int .i64] ss, .int .i64 d], .nilp, .int .i64 w], [] => spW (vev39n_1 us ss d w) (some ((true, AV.tup [AV.agg [AV.sl Tk.imm kI1 us, AV.sl Tk.imm kI1 ss, iA (vev39n_0 us ss d w)], AV.agg [iA 0, iA 0, iA 0, iA 0], AV.bool false], [])))
 | _, _ => none
noncomputable def k39n : Gam := spG 39 sp39n k31n
theorem k39n_ok : GamOK Try.prog k39n := spG_ok k31n_ok fun T C r outs hs => by
   unfold sp39n at hs
   split at hs
   ·exact okE k31n_ok Try.func39 (fun c _ => LoopsOK.none (fun _ _ => rfl) c) (ev39n _ _ _ _) hs
   ·cases hs
noncomputable def rev39_0 (us ss : LL) (d w q lim t k : Int) (order es ready : LL) : Int := IntKind.i64.wrap (d + 1)
noncomputable def rev39_1 (us ss : LL) (d w q lim t k : Int) (order es ready : LL) : Int := vev31_2 q lim t k order es ready
noncomputable def vev39_0 (us ss : LL) (d w q lim t k : Int) (order es ready : LL) : LL := bif !vev76_0 us ss d w then us else bif !vev31_4 q lim t k order es ready then us else us.set w.toNat [iA (IntKind.i64.wrap (intOf ((us.getD w.toNat []).getD 0 AV.junk) + rev39_1 us ss d w q lim t k order es ready))]
noncomputable def vev39_1 (us ss : LL) (d w q lim t k : Int) (order es ready : LL) : LL := bif !vev76_0 us ss d w then ss else bif !vev31_4 q lim t k order es ready then ss else ss.set w.toNat [iA (IntKind.i64.wrap (intOf ((ss.getD w.toNat []).getD 0 AV.junk) + 1))]
noncomputable def vev39_2 (us ss : LL) (d w q lim t k : Int) (order es ready : LL) : Int := bif !vev76_0 us ss d w then d else bif !vev31_4 q lim t k order es ready then if if false = true then rev39_0 us ss d w q lim t k order es ready < 1099511627776 else 1099511627776 < rev39_0 us ss d w q lim t k order es ready then 1099511627776 else rev39_0 us ss d w q lim t k order es ready else d
noncomputable def vev39_3 (us ss : LL) (d w q lim t k : Int) (order es ready : LL) : Int := bif !vev76_0 us ss d w then 0 else bif !vev31_4 q lim t k order es ready then 0 else vev31_0 q lim t k order es ready
noncomputable def vev39_4 (us ss : LL) (d w q lim t k : Int) (order es ready : LL) : Int := bif !vev76_0 us ss d w then 0 else bif !vev31_4 q lim t k order es ready then 0 else vev31_1 q lim t k order es ready
noncomputable def vev39_5 (us ss : LL) (d w q lim t k : Int) (order es ready : LL) : Int := bif !vev76_0 us ss d w then 0 else bif !vev31_4 q lim t k order es ready then 0 else rev39_1 us ss d w q lim t k order es ready
noncomputable def vev39_6 (us ss : LL) (d w q lim t k : Int) (order es ready : LL) : Int := bif !vev76_0 us ss d w then 0 else bif !vev31_4 q lim t k order es ready then 0 else vev31_3 q lim t k order es ready
noncomputable def vev39_7 (us ss : LL) (d w q lim t k : Int) (order es ready : LL) : Bool := bif !vev76_0 us ss d w then false else bif !vev31_4 q lim t k order es ready then false else true
noncomputable def vev39_8 (us ss : LL) (d w q lim t k : Int) (order es ready : LL) : LL := bif !vev76_0 us ss d w then ready else vev31_5 q lim t k order es ready
noncomputable def vev39_9 (us ss : LL) (d w q lim t k : Int) (order es ready : LL) : Int := bif !vev76_0 us ss d w then t else vev31_6 q lim t k order es ready
noncomputable def vev39_10 (us ss : LL) (d w q lim t k : Int) (order es ready : LL) : Int := bif !vev76_0 us ss d w then k else vev31_7 q lim t k order es ready
noncomputable def vev39_11 (us ss : LL) (d w q lim t k : Int) (order es ready : LL) : LL := bif !vev76_0 us ss d w then es else vev31_8 q lim t k order es ready
noncomputable def vev39_12 (us ss : LL) (d w q lim t k : Int) (order es ready : LL) : Bool := bif vev56_0 us ss d then bif vev76_1 us ss d w then bif !vev76_0 us ss d w then true else bif vev31_9 q lim t k order es ready then bif !vev31_4 q lim t k order es ready then true else bif decide (0 ≤ w) && decide (w < (↑us.length : Int)) then bif decide (0 ≤ w) && decide (w < (↑ss.length : Int)) then true else false else false else false else false else false
theorem ev39 (us ss : LL) (d w q lim t k : Int) (order es ready : LL) : eF k39n noLsp 39 Try.f39 [.agg [.sl .imm kI1 us, .sl .imm kI1 ss, iA d], .hp 0 0, iA w] (bS q lim ready t k order es) = bif vev39_12 us ss d w q lim t k order es ready then some (true, AV.tup [AV.agg [AV.sl Tk.imm kI1 (vev39_0 us ss d w q lim t k order es ready), AV.sl Tk.imm kI1 (vev39_1 us ss d w q lim t k order es ready), iA (vev39_2 us ss d w q lim t k order es ready)], AV.agg [iA (vev39_3 us ss d w q lim t k order es ready), iA (vev39_4 us ss d w q lim t k order es ready), iA (vev39_5 us ss d w q lim t k order es ready), iA (vev39_6 us ss d w q lim t k order es ready)], AV.bool (vev39_7 us ss d w q lim t k order es ready)], (bS q lim (vev39_8 us ss d w q lim t k order es ready) (vev39_9 us ss d w q lim t k order es ready) (vev39_10 us ss d w q lim t k order es ready) order (vev39_11 us ss d w q lim t k order es ready))) else none := by
 refine Eq.trans (b := bif vev56_0 us ss d then bif vev76_1 us ss d w then bif !vev76_0 us ss d w then some (true, AV.tup [AV.agg [AV.sl Tk.imm kI1 us, AV.sl Tk.imm kI1 ss, iA d], AV.agg [iA 0, iA 0, iA 0, iA 0], AV.bool false], (bS q lim ready t k order es)) else bif vev31_9 q lim t k order es ready then bif !vev31_4 q lim t k order es ready then some (true, AV.tup [AV.agg [AV.sl Tk.imm kI1 us, AV.sl Tk.imm kI1 ss, iA (if if false = true then rev39_0 us ss d w q lim t k order es ready < 1099511627776 else 1099511627776 < rev39_0 us ss d w q lim t k order es ready then 1099511627776 else rev39_0 us ss d w q lim t k order es ready)], AV.agg [iA 0, iA 0, iA 0, iA 0], AV.bool false], (bS q lim (vev31_5 q lim t k order es ready) (vev31_6 q lim t k order es ready) (vev31_7 q lim t k order es ready) order (vev31_8 q lim t k order es ready))) else bif decide (0 ≤ w) && decide (w < (↑us.length : Int)) then bif decide (0 ≤ w) && decide (w < (↑us.length : Int)) then bif decide (0 ≤ w) && decide (w < (↑ss.length : Int)) then bif decide (0 ≤ w) && decide (w < (↑ss.length : Int)) then some (true, AV.tup [AV.agg [AV.sl Tk.imm kI1 (us.set w.toNat [iA (IntKind.i64.wrap (intOf ((us.getD w.toNat []).getD 0 AV.junk) + rev39_1 us ss d w q lim t k order es ready))]), AV.sl Tk.imm kI1 (ss.set w.toNat [iA (IntKind.i64.wrap (intOf ((ss.getD w.toNat []).getD 0 AV.junk) + 1))]), iA d], AV.agg [iA (vev31_0 q lim t k order es ready), iA (vev31_1 q lim t k order es ready), iA (rev39_1 us ss d w q lim t k order es ready), iA (vev31_3 q lim t k order es ready)], AV.bool true], (bS q lim (vev31_5 q lim t k order es ready) (vev31_6 q lim t k order es ready) (vev31_7 q lim t k order es ready) order (vev31_8 q lim t k order es ready))) else none else none else none else none else none else none else none) (by kernel_rfl) ?_
 unfold vev39_0 vev39_1 vev39_2 vev39_3 vev39_4 vev39_5 vev39_6 vev39_7 vev39_8 vev39_9 vev39_10 vev39_11 vev39_12
 generalize (decide (0 ≤ w) && decide (w < (↑us.length : Int))) = c0
 generalize (decide (0 ≤ w) && decide (w < (↑ss.length : Int))) = c1
 generalize (!vev31_4 _ _ _ _ _ _ _) = c2
 generalize (vev31_9 _ _ _ _ _ _ _) = c3
 generalize (!vev76_0 _ _ _ _) = c4
 generalize (vev76_1 _ _ _ _) = c5
 generalize (vev56_0 _ _ _) = c6
 cases c6; rfl; cases c5; rfl; cases c4; cases c3; rfl; cases c2; cases c0; rfl; cases c1; rfl; rfl; rfl; rfl
noncomputable def sp39 : Sp
 | [.agg [.sl .imm [.int .i64] us, .sl .imm [.int .i64] ss, .int .i64 d], .hp 0 0, .int .i64 w], [.var [.int .i64 q, .int .i64 lim, .rf 1 [.int .i64], .mp 2 [.int .i64, .int .i64, .int .i64, .int .i64, .int .i64, .int .i64, .sl [.int .i64, .int .i64, .int .i64, .int .i64]], .sl .imm [.int .i64, .int .i64] ready, .int .i64 t, .int .i64 k], .row [.int .i64] order, .tbl [.int .i64, .int .i64, .int .i64, .int .i64, .int .i64, .int .i64, .sl [.int .i64, .int .i64, .int .i64, .int .i64]] es none] => spW (vev39_12 us ss d w q lim t k order es ready) (some ((true, AV.tup [AV.agg [AV.sl Tk.imm kI1 (vev39_0 us ss d w q lim t k order es ready), AV.sl Tk.imm kI1 (vev39_1 us ss d w q lim t k order es ready), iA (vev39_2 us ss d w q lim t k order es ready)], AV.agg [iA (vev39_3 us ss d w q lim t k order es ready), iA (vev39_4 us ss d w q lim t k order es ready), iA (vev39_5 us ss d w q lim t k order es ready), iA (vev39_6 us ss d w q lim t k order es ready)], AV.bool (vev39_7 us ss d w q lim t k order es ready)], (bS q lim (vev39_8 us ss d w q lim t k order es ready) (vev39_9 us ss d w q lim t k order es ready) (vev39_10 us ss d w q lim t k order es ready) order (vev39_11 us ss d w q lim t k order es ready)))))
 | _, _ => none
noncomputable def k39 : Gam := spG 39 sp39 k39n
theorem k39_ok : GamOK Try.prog k39 := spG_ok k39n_ok fun T C r outs hs => by
   unfold sp39 at hs
   split at hs
   ·exact okE k39n_ok Try.func39 (fun c _ => LoopsOK.none (fun _ _ => rfl) c) (ev39 _ _ _ _ _ _ _ _ _ _ _) hs
   ·cases hs
end Go.Proofs.Gv
