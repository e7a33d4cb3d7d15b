import Derived.Test.YthnbpgiohimkoaaPw45
import Derived.Test.YthnbpgiohimkoaaPw46
import Derived.Test.YthnbpgiohimkoaaPw32
import Derived.Test.YthnbpgiohimkoaaPw35
import Derived.Test.YthnbpgiohimkoaaPw27
import Derived.KernelRfl
import Derived.Test.YthnbpgiohimkoaaPw30
import Derived.Test.YthnbpgiohimkoaaPw31
import Derived.Test.YthnbpgiohimkoaaPw43
set_option linter.unusedVariables false
namespace Go.Proofs.Gv
open Go.Proofs
theorem aw10 : gk k17c 30 10 [] [] = some (true, .bool true, []) := by kernel_rfl
noncomputable def k10 : Gam := fun f T C => match Nat.beq f 10, T, C with
 | true, [], [] => some (true, .bool true, [])
 | _, T, C => k17c f T C
end Go.Proofs.Gv
namespace Go.Proofs.Gv
noncomputable def kw : Gam := fun f T C => match Nat.beq f 10, T, C with
 | true, [], [] => some (true, .bool true, [])
 | _, T, C => k17 f T C
theorem kw_ok : GamOK Try.prog kw := by
 intro f T C r outs h
 unfold kw at h
 split at h
 ·rename_i hf
  have hf' := Nat.eq_of_beq_eq_true hf
  subst hf'
  have hx : (true, AV.bool true, ([] : List Blk)) = (true, r, outs) := by simpa using h
  injection hx with _ hx
  injection hx with h1 h2
  subst h1 h2
  exact gk_ok k17c_ok 30 _ _ _ _ _ aw10
 ·exact k17_ok _ _ _ r outs h
end Go.Proofs.Gv
namespace Go.Proofs.Gv
open Go.Proofs
noncomputable def vev59_0 (n : Int) : Bool := bif decide (n ≥ 0) then bif true then decide (n ≤ 1099511627776) else false else false
theorem ev59 (n : Int) : eF kw noLsp 59 Try.f59 [iA n] [] = bif true then some (true, AV.bool (vev59_0 n), []) else none := by
 refine Eq.trans (b := bif bif decide (n ≥ 0) then true else true then some (true, AV.bool (bif decide (n ≥ 0) then bif true then decide (n ≤ 1099511627776) else false else false), []) else none) (by kernel_rfl) ?_
 unfold vev59_0
 generalize (decide (n ≥ 0)) = c0
 cases c0
 ·skip
  rfl
 ·skip
  rfl
noncomputable def sp59 : Sp
 | [.int .i64 n], [] => spW (true) (some ((true, AV.bool (vev59_0 n), [])))
 | _, _ => none
noncomputable def k59 : Gam := spG 59 sp59 kw
theorem k59_ok : GamOK Try.prog k59 := spG_ok kw_ok fun T C r outs hs => by
   unfold sp59 at hs
   split at hs
   ·rename_i n
    obtain ⟨hb, rfl, rfl⟩ := spT_inv hs
    have he := ev59 n
    obtain ⟨r0, o0, h0, he⟩ := evFin_inv he
    obtain ⟨h1, h2⟩ := fn_ok mixed plain (gk_ok kw_ok 30) Try.func59 (fun c _ => LoopsOK.none (fun _ _ => rfl) c) h0
    exact ⟨h1, h2.fin he⟩
   ·cases hs
noncomputable def rn21_4_0 (a : Int) (b c : LL) (d : Int) : Int := intOf ((b.getD a.toNat []).getD 0 AV.junk)
noncomputable def rn21_4_1 (a : Int) (b c : LL) (d : Int) : Int := intOf ((c.getD a.toNat []).getD 0 AV.junk)
noncomputable def go21_4 (a : Int) (b c : LL) (d : Int) : Bool := bif decide (a < (↑b.length : Int)) then bif bif decide (0 ≤ a) && decide (a < (↑b.length : Int)) then bif !vev59_0 (rn21_4_0 a b c d) then true else bif decide (0 ≤ a) && decide (a < (↑c.length : Int)) then bif !vev59_0 (rn21_4_1 a b c d) then true else bif decide (0 ≤ a) && decide (a < (↑c.length : Int)) then decide (0 ≤ a) && decide (a < (↑b.length : Int)) else false else false else false then bif bif decide (0 ≤ a) && decide (a < (↑b.length : Int)) then bif !vev59_0 (rn21_4_0 a b c d) then true else bif decide (0 ≤ a) && decide (a < (↑c.length : Int)) then bif !vev59_0 (rn21_4_1 a b c d) then true else bif decide (0 ≤ a) && decide (a < (↑c.length : Int)) then bif decide (0 ≤ a) && decide (a < (↑b.length : Int)) then decide (rn21_4_1 a b c d > rn21_4_0 a b c d) else false else false else false else false then false else true else false else false
noncomputable def nx21_4_0 (a : Int) (b c : LL) (d : Int) : Int := IntKind.i64.wrap (a + 1)
noncomputable def xc21_4_0 (a : Int) (b c : LL) (d : Int) : Bool := bif decide (a < (↑b.length : Int)) then bif bif decide (0 ≤ a) && decide (a < (↑b.length : Int)) then bif !vev59_0 (rn21_4_0 a b c d) then true else bif decide (0 ≤ a) && decide (a < (↑c.length : Int)) then bif !vev59_0 (rn21_4_1 a b c d) then true else bif decide (0 ≤ a) && decide (a < (↑c.length : Int)) then decide (0 ≤ a) && decide (a < (↑b.length : Int)) else false else false else false then bif decide (0 ≤ a) && decide (a < (↑b.length : Int)) then bif !vev59_0 (rn21_4_0 a b c d) then true else bif decide (0 ≤ a) && decide (a < (↑c.length : Int)) then bif !vev59_0 (rn21_4_1 a b c d) then true else bif decide (0 ≤ a) && decide (a < (↑c.length : Int)) then bif decide (0 ≤ a) && decide (a < (↑b.length : Int)) then decide (rn21_4_1 a b c d > rn21_4_0 a b c d) else false else false else false else false else false else false
noncomputable def xc21_4_1 (a : Int) (b c : LL) (d : Int) : Bool := bif decide (a < (↑b.length : Int)) then false else true
theorem rd21_4 (rest : Lsp) (a : Int) (b c : LL) (d : Int) : rV k59 rest 21 0 Try.f21 4 [1, 3] [0] [2] [] [AV.hp 0 0, iA a] [Blk.var [AV.sl Tk.imm kI1 b, AV.sl Tk.imm kI1 c, iA d]] = bif go21_4 a b c d then some (Ex.norm, [AV.hp 0 0, iA (nx21_4_0 a b c d)], [Blk.var [AV.sl Tk.imm kI1 b, AV.sl Tk.imm kI1 c, iA d]]) else bif xc21_4_0 a b c d then some (Ex.ret, [iA 8], []) else bif xc21_4_1 a b c d then some (Ex.exit 0, [AV.junk], []) else none := by
 refine Eq.trans (b := bif decide (a < (↑b.length : Int)) then bif bif decide (0 ≤ a) && decide (a < (↑b.length : Int)) then bif !vev59_0 (rn21_4_0 a b c d) then true else bif decide (0 ≤ a) && decide (a < (↑c.length : Int)) then bif bif false then true else !vev59_0 (rn21_4_1 a b c d) then true else bif decide (0 ≤ a) && decide (a < (↑c.length : Int)) then bif decide (0 ≤ a) && decide (a < (↑b.length : Int)) then true else false else false else false else false then bif bif decide (0 ≤ a) && decide (a < (↑b.length : Int)) then bif !vev59_0 (rn21_4_0 a b c d) then true else bif decide (0 ≤ a) && decide (a < (↑c.length : Int)) then bif bif false then true else !vev59_0 (rn21_4_1 a b c d) then true else bif decide (0 ≤ a) && decide (a < (↑c.length : Int)) then bif decide (0 ≤ a) && decide (a < (↑b.length : Int)) then bif false then true else decide (rn21_4_1 a b c d > rn21_4_0 a b c d) else false else false else false else false then some (Ex.ret, [iA 8], []) else some (Ex.norm, [AV.hp 0 0, iA (IntKind.i64.wrap (a + 1))], [Blk.var [AV.sl Tk.imm kI1 b, AV.sl Tk.imm kI1 c, iA d]]) else none else some (Ex.exit 0, [AV.junk], [])) (by kernel_rfl) ?_
 unfold go21_4 nx21_4_0 xc21_4_0 xc21_4_1
 generalize (decide (0 ≤ a) && decide (a < (↑c.length : Int))) = c0
 generalize (decide (0 ≤ a) && decide (a < (↑b.length : Int))) = c1
 generalize (decide (rn21_4_1 a b c d > rn21_4_0 a b c d)) = c2
 generalize (decide (a < (↑b.length : Int))) = c3
 generalize (!vev59_0 (rn21_4_0 a b c d)) = c4
 generalize (!vev59_0 (rn21_4_1 a b c d)) = c5
 cases c3; rfl; cases c1; rfl; cases c4; cases c0; rfl; cases c5; cases c2; rfl; rfl; rfl; rfl
abbrev pl21_4 : Type := LL × LL × Int
abbrev sl21_4 : Type := Int
noncomputable def vt21_4 (a : pl21_4 × sl21_4) : List AV := [AV.hp 0 0, iA a.2]
noncomputable def vc21_4 (a : pl21_4 × sl21_4) : List Blk := [Blk.var [AV.sl Tk.imm kI1 a.1.1, AV.sl Tk.imm kI1 a.1.2.1, iA a.1.2.2]]
noncomputable def de21_4 (vt : List AV) (vc : List Blk) : Option (pl21_4 × sl21_4) :=
 match vt with
 | [qa0, qa1] => (match vc with
 | [qb0] => (match qa0 with
 | AV.hp (0) (0) => (match qa1 with
 | .int .i64 t3 => (match qb0 with
 | .var [.sl Tk.imm [.int .i64] b0_0, .sl Tk.imm [.int .i64] b0_1, .int .i64 b0_2] => (some ((b0_0, b0_1, b0_2), t3))
 | _ => none)
 | _ => none)
 | _ => none)
 | _ => none)
 | _ => none
theorem de21_4_ok (vt : List AV) (vc : List Blk) (a : pl21_4 × sl21_4) (h : de21_4 vt vc = some a) : vt = vt21_4 a ∧ vc = vc21_4 a := by
 unfold de21_4 at h
 iterate 5 (split at h; rotate_left; · cases h)
 injection h with h; subst h; exact ⟨rfl, rfl⟩
noncomputable def g21_4 (p : pl21_4) (s : sl21_4) : Bool := go21_4 s p.1 p.2.1 p.2.2
noncomputable def n21_4 (p : pl21_4) (s : sl21_4) : sl21_4 := nx21_4_0 s p.1 p.2.1 p.2.2
noncomputable def y21_4 (p : pl21_4) (s : sl21_4) : List (Bool × Out) := [(xc21_4_0 s p.1 p.2.1 p.2.2, (Ex.ret, [iA 8], []))]
noncomputable def z21_4 (p : pl21_4) (s : sl21_4) : Bool := xc21_4_1 s p.1 p.2.1 p.2.2
noncomputable def d21_4 (p : pl21_4) (s : sl21_4) : Out := (Ex.exit 0, [AV.junk], [])
noncomputable def ls21_4 := lspOf [1, 3] [0] [2] [] Try.f21.ntmps (0 + tab.nid 21) de21_4 (spI g21_4 n21_4 y21_4 z21_4 d21_4)
theorem lo21_4 (rest : Lsp) : lO k59 (selL 4 ls21_4 rest) 21 0 Try.f21 4 := LoopOK1.iter (i := 4) (by kernel_rfl) [1, 3] [0] [2] [] vt21_4 vc21_4 de21_4 g21_4 n21_4 y21_4 z21_4 d21_4 (fun _ => rfl) de21_4_ok (fun p s => rd21_4 (selL 4 ls21_4 rest) s (p.1) (p.2.1) (p.2.2)) (fun _ _ => rfl)
noncomputable def lsp21 : Lsp := (selL 4 ls21_4 noLsp)
theorem loops21 : ∀ c, Try.f21.body = some c → lsO k59 lsp21 21 0 Try.f21 c := loops_of [4] (by kernel_rfl) (by kernel_rfl) (fun i hi => by simp only [List.mem_cons, List.not_mem_nil, or_false] at hi; subst hi; exact lo21_4 noLsp)
noncomputable def rev21_0 (us ss : LL) (d : Int) : sl21_4 := finL (g21_4 (us, ss, d)) (n21_4 (us, ss, d)) 0
noncomputable def vev21_0 (us ss : LL) (d : Int) : Int := bif bif decide ((↑us.length : Int) < 1) then true else bif decide ((↑us.length : Int) > 8) then true else bif (↑us.length : Int) != (↑ss.length : Int) then true else !vev59_0 d then 8 else bif xc21_4_0 (rev21_0 us ss d) us ss d then 8 else 0
noncomputable def vev21_1 (us ss : LL) (d : Int) : Bool := bif bif decide ((↑us.length : Int) < 1) then true else bif decide ((↑us.length : Int) > 8) then true else bif (↑us.length : Int) != (↑ss.length : Int) then true else !vev59_0 d then true else bif (spI g21_4 n21_4 y21_4 z21_4 d21_4 ((us, ss, d), 0)).fst then true else false
theorem ev21 (us ss : LL) (d : Int) : eF k59 lsp21 21 Try.f21 [.agg [.sl .imm kI1 us, .sl .imm kI1 ss, iA d]] [] = bif vev21_1 us ss d then some (true, iA (vev21_0 us ss d), []) else none := by
 refine Eq.trans (b := bif bif decide ((↑us.length : Int) < 1) then true else bif bif false then true else decide ((↑us.length : Int) > 8) then true else bif bif false then true else (↑us.length : Int) != (↑ss.length : Int) then true else true then bif bif decide ((↑us.length : Int) < 1) then true else bif bif false then true else decide ((↑us.length : Int) > 8) then true else bif bif false then true else (↑us.length : Int) != (↑ss.length : Int) then true else bif false then true else !vev59_0 d then some (true, iA 8, []) else bif (spI g21_4 n21_4 y21_4 z21_4 d21_4 ((us, ss, d), 0)).fst then bif xc21_4_0 (rev21_0 us ss d) us ss d then some (true, iA 8, []) else some (true, iA 0, []) else none else none) (by kernel_rfl) ?_
 unfold vev21_0 vev21_1
 generalize (spI g21_4 _ _ _ _ _).fst = c0
 generalize (decide ((↑us.length : Int) > 8)) = c1
 generalize (decide ((↑us.length : Int) < 1)) = c2
 generalize ((↑us.length : Int) != (↑ss.length : Int)) = c3
 generalize (xc21_4_0 _ _ _ _) = c4
 generalize (!vev59_0 _) = c5
 cases c2; cases c1; cases c3; cases c5; cases c0; rfl; cases c4; rfl; rfl; rfl; rfl; rfl; rfl
noncomputable def sp21 : Sp
 | [.agg [.sl .imm [.int .i64] us, .sl .imm [.int .i64] ss, .int .i64 d]], [] => spW (vev21_1 us ss d) (some ((true, iA (vev21_0 us ss d), [])))
 | _, _ => none
noncomputable def k21 : Gam := spG 21 sp21 k59
theorem k21_ok : GamOK Try.prog k21 := spG_ok k59_ok fun T C r outs hs => by
   unfold sp21 at hs
   split at hs
   ·exact okE k59_ok Try.func21 loops21 (ev21 _ _ _) hs
   ·cases hs
noncomputable def go23_3 (a b : Int) (c d : LL) (e : Int) : Bool := bif bif decide (b < (↑c.length : Int)) then vev21_1 c d e else true then bif bif decide (b < (↑c.length : Int)) then bif vev21_1 c d e then vev21_0 c d e == 0 else false else false then decide (0 ≤ b) && decide (b < (↑c.length : Int)) else false else false
noncomputable def nx23_3_0 (a b : Int) (c d : LL) (e : Int) : Int := IntKind.i64.wrap (a + intOf ((c.getD b.toNat []).getD 0 AV.junk))
noncomputable def nx23_3_1 (a b : Int) (c d : LL) (e : Int) : Int := IntKind.i64.wrap (b + 1)
noncomputable def xc23_3_0 (a b : Int) (c d : LL) (e : Int) : Bool := bif bif decide (b < (↑c.length : Int)) then vev21_1 c d e else true then bif bif decide (b < (↑c.length : Int)) then bif vev21_1 c d e then vev21_0 c d e == 0 else false else false then false else true else false
theorem rd23_3 (rest : Lsp) (a b : Int) (c d : LL) (e : Int) : rV k21 rest 23 0 Try.f23 3 [1, 3, 4] [0] [3] [] [AV.hp 0 0, iA a, iA b] [Blk.var [AV.sl Tk.imm kI1 c, AV.sl Tk.imm kI1 d, iA e]] = bif go23_3 a b c d e then some (Ex.norm, [AV.hp 0 0, iA (nx23_3_0 a b c d e), iA (nx23_3_1 a b c d e)], [Blk.var [AV.sl Tk.imm kI1 c, AV.sl Tk.imm kI1 d, iA e]]) else bif xc23_3_0 a b c d e then some (Ex.exit 0, [iA a], []) else none := by
 refine Eq.trans (b := bif bif decide (b < (↑c.length : Int)) then bif vev21_1 c d e then true else false else true then bif bif decide (b < (↑c.length : Int)) then bif vev21_1 c d e then bif true then vev21_0 c d e == 0 else false else false else false then bif decide (0 ≤ b) && decide (b < (↑c.length : Int)) then some (Ex.norm, [AV.hp 0 0, iA (IntKind.i64.wrap (a + intOf ((c.getD b.toNat []).getD 0 AV.junk))), iA (IntKind.i64.wrap (b + 1))], [Blk.var [AV.sl Tk.imm kI1 c, AV.sl Tk.imm kI1 d, iA e]]) else none else some (Ex.exit 0, [iA a], []) else none) (by kernel_rfl) ?_
 unfold go23_3 nx23_3_0 nx23_3_1 xc23_3_0
 generalize (decide (0 ≤ b) && decide (b < (↑c.length : Int))) = c0
 generalize (decide (b < (↑c.length : Int))) = c1
 generalize (vev21_0 c d e == 0) = c2
 generalize (vev21_1 _ _ _) = c3
 cases c1; rfl; cases c3; rfl; cases c2; rfl; cases c0; rfl; rfl
abbrev pl23_3 : Type := LL × LL × Int
abbrev sl23_3 : Type := Int × Int
noncomputable def vt23_3 (a : pl23_3 × sl23_3) : List AV := [AV.hp 0 0, iA a.2.1, iA a.2.2]
noncomputable def vc23_3 (a : pl23_3 × sl23_3) : List Blk := [Blk.var [AV.sl Tk.imm kI1 a.1.1, AV.sl Tk.imm kI1 a.1.2.1, iA a.1.2.2]]
noncomputable def de23_3 (vt : List AV) (vc : List Blk) : Option (pl23_3 × sl23_3) :=
 match vt with
 | [qa0, qa1, qa2] => (match vc with
 | [qb0] => (match qa0 with
 | AV.hp (0) (0) => (match qa1 with
 | .int .i64 t3 => (match qa2 with
 | .int .i64 t4 => (match qb0 with
 | .var [.sl Tk.imm [.int .i64] b0_0, .sl Tk.imm [.int .i64] b0_1, .int .i64 b0_2] => (some ((b0_0, b0_1, b0_2), (t3, t4)))
 | _ => none)
 | _ => none)
 | _ => none)
 | _ => none)
 | _ => none)
 | _ => none
theorem de23_3_ok (vt : List AV) (vc : List Blk) (a : pl23_3 × sl23_3) (h : de23_3 vt vc = some a) : vt = vt23_3 a ∧ vc = vc23_3 a := by
 unfold de23_3 at h
 iterate 6 (split at h; rotate_left; · cases h)
 injection h with h; subst h; exact ⟨rfl, rfl⟩
noncomputable def g23_3 (p : pl23_3) (s : sl23_3) : Bool := go23_3 s.1 s.2 p.1 p.2.1 p.2.2
noncomputable def n23_3 (p : pl23_3) (s : sl23_3) : sl23_3 := (nx23_3_0 s.1 s.2 p.1 p.2.1 p.2.2, nx23_3_1 s.1 s.2 p.1 p.2.1 p.2.2)
noncomputable def y23_3 (p : pl23_3) (s : sl23_3) : List (Bool × Out) := []
noncomputable def z23_3 (p : pl23_3) (s : sl23_3) : Bool := xc23_3_0 s.1 s.2 p.1 p.2.1 p.2.2
noncomputable def d23_3 (p : pl23_3) (s : sl23_3) : Out := (Ex.exit 0, [iA s.1], [])
noncomputable def ls23_3 := lspOf [1, 3, 4] [0] [3] [] Try.f23.ntmps (0 + tab.nid 23) de23_3 (spI g23_3 n23_3 y23_3 z23_3 d23_3)
theorem lo23_3 (rest : Lsp) : lO k21 (selL 3 ls23_3 rest) 23 0 Try.f23 3 := LoopOK1.iter (i := 3) (by kernel_rfl) [1, 3, 4] [0] [3] [] vt23_3 vc23_3 de23_3 g23_3 n23_3 y23_3 z23_3 d23_3 (fun _ => rfl) de23_3_ok (fun p s => rd23_3 (selL 3 ls23_3 rest) (s.1) (s.2) (p.1) (p.2.1) (p.2.2)) (fun _ _ => rfl)
noncomputable def lsp23 : Lsp := (selL 3 ls23_3 noLsp)
theorem loops23 : ∀ c, Try.f23.body = some c → lsO k21 lsp23 23 0 Try.f23 c := loops_of [3] (by kernel_rfl) (by kernel_rfl) (fun i hi => by simp only [List.mem_cons, List.not_mem_nil, or_false] at hi; subst hi; exact lo23_3 noLsp)
noncomputable def rev23_0 (us ss : LL) (d : Int) : sl23_3 := finL (g23_3 (us, ss, d)) (n23_3 (us, ss, d)) (0, 0)
noncomputable def vev23_0 (us ss : LL) (d : Int) : Int := (rev23_0 us ss d).fst
noncomputable def vev23_1 (us ss : LL) (d : Int) : Bool := bif (spI g23_3 n23_3 y23_3 z23_3 d23_3 ((us, ss, d), 0, 0)).fst then true else false
theorem ev23 (us ss : LL) (d : Int) : eF k21 lsp23 23 Try.f23 [.agg [.sl .imm kI1 us, .sl .imm kI1 ss, iA d]] [] = bif vev23_1 us ss d then some (true, iA (vev23_0 us ss d), []) else none := by
 refine Eq.trans (b := bif (spI g23_3 n23_3 y23_3 z23_3 d23_3 ((us, ss, d), 0, 0)).fst then some (true, iA (rev23_0 us ss d).fst, []) else none) (by kernel_rfl) ?_
 unfold vev23_0 vev23_1
 generalize (spI g23_3 _ _ _ _ _).fst = c0
 cases c0
 ·skip
  rfl
 ·skip
  rfl
noncomputable def sp23 : Sp
 | [.agg [.sl .imm [.int .i64] us, .sl .imm [.int .i64] ss, .int .i64 d]], [] => spW (vev23_1 us ss d) (some ((true, iA (vev23_0 us ss d), [])))
 | _, _ => none
noncomputable def k23 : Gam := spG 23 sp23 k21
theorem k23_ok : GamOK Try.prog k23 := spG_ok k21_ok fun T C r outs hs => by
   unfold sp23 at hs
   split at hs
   ·exact okE k21_ok Try.func23 loops23 (ev23 _ _ _) hs
   ·cases hs
noncomputable def go57_4 (a b : LL) (c : Int) : Bool := bif decide (c < (↑a.length : Int)) then bif decide (0 ≤ c) && decide (c < (↑a.length : Int)) then bif decide (0 ≤ c) && decide (c < (↑b.length : Int)) then bif intOf ((a.getD c.toNat []).getD 0 AV.junk) != intOf ((b.getD c.toNat []).getD 0 AV.junk) then false else true else false else false else false
noncomputable def nx57_4_2 (a b : LL) (c : Int) : Int := IntKind.i64.wrap (c + 1)
noncomputable def xc57_4_0 (a b : LL) (c : Int) : Bool := bif decide (c < (↑a.length : Int)) then bif decide (0 ≤ c) && decide (c < (↑a.length : Int)) then bif decide (0 ≤ c) && decide (c < (↑b.length : Int)) then intOf ((a.getD c.toNat []).getD 0 AV.junk) != intOf ((b.getD c.toNat []).getD 0 AV.junk) else false else false else false
noncomputable def xc57_4_1 (a b : LL) (c : Int) : Bool := bif decide (c < (↑a.length : Int)) then false else true
theorem rd57_4 (rest : Lsp) (a b : LL) (c : Int) : rV k23 rest 57 0 Try.f57 4 [0, 1, 5] [] [4] [] [AV.sl Tk.imm kI1 a, AV.sl Tk.imm kI1 b, iA c] [] = bif go57_4 a b c then some (Ex.norm, [AV.sl Tk.imm kI1 a, AV.sl Tk.imm kI1 b, iA (nx57_4_2 a b c)], []) else bif xc57_4_0 a b c then some (Ex.ret, [AV.bool false], []) else bif xc57_4_1 a b c then some (Ex.exit 0, [AV.junk], []) else none := by
 refine Eq.trans (b := bif decide (c < (↑a.length : Int)) then bif decide (0 ≤ c) && decide (c < (↑a.length : Int)) then bif decide (0 ≤ c) && decide (c < (↑b.length : Int)) then bif intOf ((a.getD c.toNat []).getD 0 AV.junk) != intOf ((b.getD c.toNat []).getD 0 AV.junk) then some (Ex.ret, [AV.bool false], []) else some (Ex.norm, [AV.sl Tk.imm kI1 a, AV.sl Tk.imm kI1 b, iA (IntKind.i64.wrap (c + 1))], []) else none else none else some (Ex.exit 0, [AV.junk], [])) (by kernel_rfl) ?_
 unfold go57_4 nx57_4_2 xc57_4_0 xc57_4_1
 generalize (intOf ((a.getD c.toNat []).getD 0 AV.junk) != intOf ((b.getD c.toNat []).getD 0 AV.junk)) = c0
 generalize (decide (0 ≤ c) && decide (c < (↑a.length : Int))) = c1
 generalize (decide (0 ≤ c) && decide (c < (↑b.length : Int))) = c2
 generalize (decide (c < (↑a.length : Int))) = c3
 cases c3; rfl; cases c1; rfl; cases c2; rfl; cases c0; rfl; rfl
abbrev pl57_4 : Type := LL × LL
abbrev sl57_4 : Type := Int
noncomputable def vt57_4 (a : pl57_4 × sl57_4) : List AV := [AV.sl Tk.imm kI1 a.1.1, AV.sl Tk.imm kI1 a.1.2, iA a.2]
noncomputable def vc57_4 (a : pl57_4 × sl57_4) : List Blk := []
noncomputable def de57_4 (vt : List AV) (vc : List Blk) : Option (pl57_4 × sl57_4) :=
 match vt with
 | [qa0, qa1, qa2] => (match vc with
 | [] => (match qa0 with
 | .sl Tk.imm [.int .i64] t0 => (match qa1 with
 | .sl Tk.imm [.int .i64] t1 => (match qa2 with
 | .int .i64 t5 => (some ((t0, t1), t5))
 | _ => none)
 | _ => none)
 | _ => none)
 | _ => none)
 | _ => none
theorem de57_4_ok (vt : List AV) (vc : List Blk) (a : pl57_4 × sl57_4) (h : de57_4 vt vc = some a) : vt = vt57_4 a ∧ vc = vc57_4 a := by
 unfold de57_4 at h
 iterate 5 (split at h; rotate_left; · cases h)
 injection h with h; subst h; exact ⟨rfl, rfl⟩
noncomputable def g57_4 (p : pl57_4) (s : sl57_4) : Bool := go57_4 p.1 p.2 s
noncomputable def n57_4 (p : pl57_4) (s : sl57_4) : sl57_4 := nx57_4_2 p.1 p.2 s
noncomputable def y57_4 (p : pl57_4) (s : sl57_4) : List (Bool × Out) := [(xc57_4_0 p.1 p.2 s, (Ex.ret, [AV.bool false], []))]
noncomputable def z57_4 (p : pl57_4) (s : sl57_4) : Bool := xc57_4_1 p.1 p.2 s
noncomputable def d57_4 (p : pl57_4) (s : sl57_4) : Out := (Ex.exit 0, [AV.junk], [])
noncomputable def ls57_4 := lspOf [0, 1, 5] [] [4] [] Try.f57.ntmps (0 + tab.nid 57) de57_4 (spI g57_4 n57_4 y57_4 z57_4 d57_4)
theorem lo57_4 (rest : Lsp) : lO k23 (selL 4 ls57_4 rest) 57 0 Try.f57 4 := LoopOK1.iter (i := 4) (by kernel_rfl) [0, 1, 5] [] [4] [] vt57_4 vc57_4 de57_4 g57_4 n57_4 y57_4 z57_4 d57_4 (fun _ => rfl) de57_4_ok (fun p s => rd57_4 (selL 4 ls57_4 rest) (p.1) (p.2) s) (fun _ _ => rfl)
noncomputable def lsp57 : Lsp := (selL 4 ls57_4 noLsp)
theorem loops57 : ∀ c, Try.f57.body = some c → lsO k23 lsp57 57 0 Try.f57 c := loops_of [4] (by kernel_rfl) (by kernel_rfl) (fun i hi => by simp only [List.mem_cons, List.not_mem_nil, or_false] at hi; subst hi; exact lo57_4 noLsp)
noncomputable def rev57_0 (a b : LL) : sl57_4 := finL (g57_4 (a, b)) (n57_4 (a, b)) 0
noncomputable def vev57_0 (a b : LL) : Bool := bif (↑a.length : Int) != (↑b.length : Int) then false else bif xc57_4_0 a b (rev57_0 a b) then false else true
noncomputable def vev57_1 (a b : LL) : Bool := bif (↑a.length : Int) != (↑b.length : Int) then true else bif (spI g57_4 n57_4 y57_4 z57_4 d57_4 ((a, b), 0)).fst then true else false
theorem ev57 (a b : LL) : eF k23 lsp57 57 Try.f57 [.sl .imm kI1 a, .sl .imm kI1 b] [] = bif vev57_1 a b then some (true, AV.bool (vev57_0 a b), []) else none := by
 refine Eq.trans (b := bif (↑a.length : Int) != (↑b.length : Int) then some (true, AV.bool false, []) else bif (spI g57_4 n57_4 y57_4 z57_4 d57_4 ((a, b), 0)).fst then bif xc57_4_0 a b (rev57_0 a b) then some (true, AV.bool false, []) else some (true, AV.bool true, []) else none) (by kernel_rfl) ?_
 unfold vev57_0 vev57_1
 generalize (spI g57_4 _ _ _ _ _).fst = c0
 generalize ((↑a.length : Int) != (↑b.length : Int)) = c1
 generalize (xc57_4_0 _ _ _) = c2
 cases c1; cases c0; rfl; cases c2; rfl; rfl; rfl
noncomputable def sp57 : Sp
 | [.sl .imm [.int .i64] a, .sl .imm [.int .i64] b], [] => spW (vev57_1 a b) (some ((true, AV.bool (vev57_0 a b), [])))
 | _, _ => none
noncomputable def k57 : Gam := spG 57 sp57 k23
theorem k57_ok : GamOK Try.prog k57 := spG_ok k23_ok fun T C r outs hs => by
   unfold sp57 at hs
   split at hs
   ·exact okE k23_ok Try.func57 loops57 (ev57 _ _) hs
   ·cases hs
noncomputable def vev19_0 (us ss : LL) (d : Int) (us2 ss2 : LL) (d2 : Int) : Bool := bif d == d2 then bif vev57_1 us us2 then bif bif true then vev57_0 us us2 else false then bif vev57_1 ss ss2 then bif true then vev57_0 ss ss2 else false else false else false else false else false
noncomputable def vev19_1 (us ss : LL) (d : Int) (us2 ss2 : LL) (d2 : Int) : Bool := bif bif d == d2 then bif vev57_1 us us2 then bif vev57_0 us us2 then vev57_1 ss ss2 else true else false else true then true else false
theorem ev19 (us ss : LL) (d : Int) (us2 ss2 : LL) (d2 : Int) : eF k57 noLsp 19 Try.f19 [.agg [.sl .imm kI1 us, .sl .imm kI1 ss, iA d], .agg [.sl .imm kI1 us2, .sl .imm kI1 ss2, iA d2]] [] = bif vev19_1 us ss d us2 ss2 d2 then some (true, AV.bool (vev19_0 us ss d us2 ss2 d2), []) else none := by
 refine Eq.trans (b := bif bif d == d2 then bif vev57_1 us us2 then bif bif true then vev57_0 us us2 else false then bif vev57_1 ss ss2 then true else false else true else false else true then some (true, AV.bool (bif d == d2 then bif vev57_1 us us2 then bif bif true then vev57_0 us us2 else false then bif vev57_1 ss ss2 then bif true then vev57_0 ss ss2 else false else false else false else false else false), []) else none) (by kernel_rfl) ?_
 unfold vev19_0 vev19_1
 generalize (d == d2) = c0
 generalize (vev57_1 ss ss2) = c1
 generalize (vev57_1 us us2) = c2
 generalize (vev57_0 _ _) = c3
 cases c0; rfl; cases c2; rfl; cases c3; rfl; cases c1; rfl; rfl
noncomputable def sp19 : Sp
 | [.agg [.sl .imm [.int .i64] us, .sl .imm [.int .i64] ss, .int .i64 d], .agg [.sl .imm [.int .i64] us2, .sl .imm [.int .i64] ss2, .int .i64 d2]], [] => spW (vev19_1 us ss d us2 ss2 d2) (some ((true, AV.bool (vev19_0 us ss d us2 ss2 d2), [])))
 | _, _ => none
noncomputable def k19 : Gam := spG 19 sp19 k57
theorem k19_ok : GamOK Try.prog k19 := spG_ok k57_ok fun T C r outs hs => by
   unfold sp19 at hs
   split at hs
   ·exact okE k57_ok Try.func19 (fun c _ => LoopsOK.none (fun _ _ => rfl) c) (ev19 _ _ _ _ _ _) hs
   ·cases hs
noncomputable def rev18_0 (us ss : LL) (d q lim t k : Int) (l : LL) (w : Int) : Int := intOf ((us.getD w.toNat []).getD 0 AV.junk)
noncomputable def rev18_1 (us ss : LL) (d q lim t k : Int) (l : LL) (w : Int) : Int := IntKind.i64.wrap (d + 1)
noncomputable def vev18_0 (us ss : LL) (d q lim t k : Int) (l : LL) (w : Int) : LL := bif vev21_0 us ss d != 0 then us else bif decide (w < 0) then us else bif decide (w ≥ (↑us.length : Int)) then us else bif decide (rev18_0 us ss d q lim t k l w > 1099511626776) then us else bif !vev32_7 q lim t k l then us else us.set w.toNat [iA (IntKind.i64.wrap (rev18_0 us ss d q lim t k l w + vev32_5 q lim t k l))]
noncomputable def vev18_1 (us ss : LL) (d q lim t k : Int) (l : LL) (w : Int) : LL := bif vev21_0 us ss d != 0 then ss else bif decide (w < 0) then ss else bif decide (w ≥ (↑us.length : Int)) then ss else bif decide (rev18_0 us ss d q lim t k l w > 1099511626776) then ss else bif !vev32_7 q lim t k l then ss else ss.set w.toNat [iA (IntKind.i64.wrap (intOf ((ss.getD w.toNat []).getD 0 AV.junk) + 1))]
noncomputable def vev18_2 (us ss : LL) (d q lim t k : Int) (l : LL) (w : Int) : Int := bif vev21_0 us ss d != 0 then d else bif decide (w < 0) then d else bif decide (w ≥ (↑us.length : Int)) then d else bif decide (rev18_0 us ss d q lim t k l w > 1099511626776) then d else bif !vev32_7 q lim t k l then if if false = true then 1099511627776 < rev18_1 us ss d q lim t k l w else rev18_1 us ss d q lim t k l w < 1099511627776 then rev18_1 us ss d q lim t k l w else 1099511627776 else d
noncomputable def vev18_3 (us ss : LL) (d q lim t k : Int) (l : LL) (w : Int) : LL := bif vev21_0 us ss d != 0 then l else bif decide (w < 0) then l else bif decide (w ≥ (↑us.length : Int)) then l else bif decide (rev18_0 us ss d q lim t k l w > 1099511626776) then l else bif !vev32_7 q lim t k l then l else vev32_0 q lim t k l
noncomputable def vev18_4 (us ss : LL) (d q lim t k : Int) (l : LL) (w : Int) : Int := bif vev21_0 us ss d != 0 then t else bif decide (w < 0) then t else bif decide (w ≥ (↑us.length : Int)) then t else bif decide (rev18_0 us ss d q lim t k l w > 1099511626776) then t else bif !vev32_7 q lim t k l then t else vev32_1 q lim t k l
noncomputable def vev18_5 (us ss : LL) (d q lim t k : Int) (l : LL) (w : Int) : Int := bif vev21_0 us ss d != 0 then k else bif decide (w < 0) then k else bif decide (w ≥ (↑us.length : Int)) then k else bif decide (rev18_0 us ss d q lim t k l w > 1099511626776) then k else bif !vev32_7 q lim t k l then k else vev32_2 q lim t k l
noncomputable def vev18_6 (us ss : LL) (d q lim t k : Int) (l : LL) (w : Int) : Int := bif vev21_0 us ss d != 0 then 0 else bif decide (w < 0) then 0 else bif decide (w ≥ (↑us.length : Int)) then 0 else bif decide (rev18_0 us ss d q lim t k l w > 1099511626776) then 0 else vev32_3 q lim t k l
noncomputable def vev18_7 (us ss : LL) (d q lim t k : Int) (l : LL) (w : Int) : Int := bif vev21_0 us ss d != 0 then 0 else bif decide (w < 0) then 0 else bif decide (w ≥ (↑us.length : Int)) then 0 else bif decide (rev18_0 us ss d q lim t k l w > 1099511626776) then 0 else vev32_4 q lim t k l
noncomputable def vev18_8 (us ss : LL) (d q lim t k : Int) (l : LL) (w : Int) : Int := bif vev21_0 us ss d != 0 then 0 else bif decide (w < 0) then 0 else bif decide (w ≥ (↑us.length : Int)) then 0 else bif decide (rev18_0 us ss d q lim t k l w > 1099511626776) then 0 else vev32_5 q lim t k l
noncomputable def vev18_9 (us ss : LL) (d q lim t k : Int) (l : LL) (w : Int) : Int := bif vev21_0 us ss d != 0 then 0 else bif decide (w < 0) then 0 else bif decide (w ≥ (↑us.length : Int)) then 0 else bif decide (rev18_0 us ss d q lim t k l w > 1099511626776) then 0 else vev32_6 q lim t k l
noncomputable def vev18_10 (us ss : LL) (d q lim t k : Int) (l : LL) (w : Int) : Bool := bif vev21_0 us ss d != 0 then false else bif decide (w < 0) then false else bif decide (w ≥ (↑us.length : Int)) then false else bif decide (rev18_0 us ss d q lim t k l w > 1099511626776) then false else bif !vev32_7 q lim t k l then false else true
noncomputable def vev18_11 (us ss : LL) (d q lim t k : Int) (l : LL) (w : Int) : Bool := bif vev21_1 us ss d then bif vev21_0 us ss d != 0 then true else bif decide (w < 0) then true else bif decide (w ≥ (↑us.length : Int)) then true else bif decide (0 ≤ w) && decide (w < (↑us.length : Int)) then bif decide (rev18_0 us ss d q lim t k l w > 1099511626776) then true else bif vev32_8 q lim t k l then bif !vev32_7 q lim t k l then true else bif bif decide (us.length * 8 ≤ 140737488355328) then decide (us.length ≤ 9223372036854775807) else false then bif bif decide (ss.length * 8 ≤ 140737488355328) then decide (ss.length ≤ 9223372036854775807) else false then bif decide (0 ≤ w) && decide (w < (↑ss.length : Int)) then true else false else false else false else false else false else false
theorem ev18 (us ss : LL) (d q lim t k : Int) (l : LL) (w : Int) : eF k19 noLsp 18 Try.f18 [.agg [.sl .imm kI1 us, .sl .imm kI1 ss, iA d], .agg [iA q, iA lim, .sl .imm kF l, iA t, iA k], iA w] [] = bif vev18_11 us ss d q lim t k l w then some (true, AV.tup [AV.agg [AV.sl Tk.imm kI1 (vev18_0 us ss d q lim t k l w), AV.sl Tk.imm kI1 (vev18_1 us ss d q lim t k l w), iA (vev18_2 us ss d q lim t k l w)], AV.agg [iA q, iA lim, AV.sl Tk.imm kF (vev18_3 us ss d q lim t k l w), iA (vev18_4 us ss d q lim t k l w), iA (vev18_5 us ss d q lim t k l w)], AV.agg [iA (vev18_6 us ss d q lim t k l w), iA (vev18_7 us ss d q lim t k l w), iA (vev18_8 us ss d q lim t k l w), iA (vev18_9 us ss d q lim t k l w)], AV.bool (vev18_10 us ss d q lim t k l w)], []) else none := by
 refine Eq.trans (b := bif vev21_1 us ss d then bif vev21_0 us ss d != 0 then some (true, AV.tup [AV.agg [AV.sl Tk.imm kI1 us, AV.sl Tk.imm kI1 ss, iA d], AV.agg [iA q, iA lim, AV.sl Tk.imm kF l, iA t, iA k], AV.agg [iA 0, iA 0, iA 0, iA 0], AV.bool false], []) else bif bif false then true else decide (w < 0) then some (true, AV.tup [AV.agg [AV.sl Tk.imm kI1 us, AV.sl Tk.imm kI1 ss, iA d], AV.agg [iA q, iA lim, AV.sl Tk.imm kF l, iA t, iA k], AV.agg [iA 0, iA 0, iA 0, iA 0], AV.bool false], []) else bif bif false then true else decide (w ≥ (↑us.length : Int)) then some (true, AV.tup [AV.agg [AV.sl Tk.imm kI1 us, AV.sl Tk.imm kI1 ss, iA d], AV.agg [iA q, iA lim, AV.sl Tk.imm kF l, iA t, iA k], AV.agg [iA 0, iA 0, iA 0, iA 0], AV.bool false], []) else bif decide (0 ≤ w) && decide (w < (↑us.length : Int)) then bif bif false then true else decide (rev18_0 us ss d q lim t k l w > 1099511626776) then some (true, AV.tup [AV.agg [AV.sl Tk.imm kI1 us, AV.sl Tk.imm kI1 ss, iA d], AV.agg [iA q, iA lim, AV.sl Tk.imm kF l, iA t, iA k], AV.agg [iA 0, iA 0, iA 0, iA 0], AV.bool false], []) else bif vev32_8 q lim t k l then bif !vev32_7 q lim t k l then some (true, AV.tup [AV.agg [AV.sl Tk.imm kI1 us, AV.sl Tk.imm kI1 ss, iA (if if false = true then 1099511627776 < rev18_1 us ss d q lim t k l w else rev18_1 us ss d q lim t k l w < 1099511627776 then rev18_1 us ss d q lim t k l w else 1099511627776)], AV.agg [iA q, iA lim, AV.sl Tk.imm kF l, iA t, iA k], AV.agg [iA (vev32_3 q lim t k l), iA (vev32_4 q lim t k l), iA (vev32_5 q lim t k l), iA (vev32_6 q lim t k l)], AV.bool false], []) else bif bif decide (us.length * 8 ≤ 140737488355328) then decide (us.length ≤ 9223372036854775807) else false then bif bif decide (ss.length * 8 ≤ 140737488355328) then decide (ss.length ≤ 9223372036854775807) else false then bif decide (0 ≤ w) && decide (w < (↑us.length : Int)) then bif decide (0 ≤ w) && decide (w < (↑us.length : Int)) then bif decide (0 ≤ w) && decide (w < (↑ss.length : Int)) then bif decide (0 ≤ w) && decide (w < (↑ss.length : Int)) then some (true, AV.tup [AV.agg [AV.sl Tk.imm kI1 (us.set w.toNat [iA (IntKind.i64.wrap (rev18_0 us ss d q lim t k l w + vev32_5 q lim t k l))]), AV.sl Tk.imm kI1 (ss.set w.toNat [iA (IntKind.i64.wrap (intOf ((ss.getD w.toNat []).getD 0 AV.junk) + 1))]), iA d], AV.agg [iA q, iA lim, AV.sl Tk.imm kF (vev32_0 q lim t k l), iA (vev32_1 q lim t k l), iA (vev32_2 q lim t k l)], AV.agg [iA (vev32_3 q lim t k l), iA (vev32_4 q lim t k l), iA (vev32_5 q lim t k l), iA (vev32_6 q lim t k l)], AV.bool true], []) else none else none else none else none else none else none else none else none else none) (by kernel_rfl) ?_
 unfold vev18_0 vev18_1 vev18_2 vev18_3 vev18_4 vev18_5 vev18_6 vev18_7 vev18_8 vev18_9 vev18_10 vev18_11
 generalize (decide (ss.length * 8 ≤ 140737488355328)) = c0
 generalize (decide (us.length * 8 ≤ 140737488355328)) = c1
 generalize (decide (0 ≤ w) && decide (w < (↑ss.length : Int))) = c2
 generalize (decide (0 ≤ w) && decide (w < (↑us.length : Int))) = c3
 generalize (decide (rev18_0 us ss d q lim t k l w > 1099511626776)) = c4
 generalize (decide (ss.length ≤ 9223372036854775807)) = c5
 generalize (decide (us.length ≤ 9223372036854775807)) = c6
 generalize (decide (w ≥ (↑us.length : Int))) = c7
 generalize (decide (w < 0)) = c8
 generalize (vev21_0 us ss d != 0) = c9
 generalize (!vev32_7 _ _ _ _ _) = c10
 generalize (vev32_8 _ _ _ _ _) = c11
 generalize (vev21_1 _ _ _) = c12
 cases c12; rfl; cases c9; cases c8; cases c7; cases c3; rfl; cases c4; cases c11; rfl; cases c10; cases c1; rfl; cases c6; rfl; cases c0; rfl
 cases c5; rfl; cases c2; rfl; rfl; rfl; rfl; rfl; rfl; rfl
noncomputable def sp18 : Sp
 | [.agg [.sl .imm [.int .i64] us, .sl .imm [.int .i64] ss, .int .i64 d], .agg [.int .i64 q, .int .i64 lim, .sl .imm [.int .i64, .int .i64, .int .i64, .int .i64, .int .i64, .int .i64, .sl [.int .i64, .int .i64, .int .i64, .int .i64]] l, .int .i64 t, .int .i64 k], .int .i64 w], [] => spW (vev18_11 us ss d q lim t k l w) (some ((true, AV.tup [AV.agg [AV.sl Tk.imm kI1 (vev18_0 us ss d q lim t k l w), AV.sl Tk.imm kI1 (vev18_1 us ss d q lim t k l w), iA (vev18_2 us ss d q lim t k l w)], AV.agg [iA q, iA lim, AV.sl Tk.imm kF (vev18_3 us ss d q lim t k l w), iA (vev18_4 us ss d q lim t k l w), iA (vev18_5 us ss d q lim t k l w)], AV.agg [iA (vev18_6 us ss d q lim t k l w), iA (vev18_7 us ss d q lim t k l w), iA (vev18_8 us ss d q lim t k l w), iA (vev18_9 us ss d q lim t k l w)], AV.bool (vev18_10 us ss d q lim t k l w)], [])))
 | _, _ => none
noncomputable def k18 : Gam := spG 18 sp18 k19
theorem k18_ok : GamOK Try.prog k18 := spG_ok k19_ok fun T C r outs hs => by
   unfold sp18 at hs
   split at hs
   ·exact okE k19_ok Try.func18 (fun c _ => LoopsOK.none (fun _ _ => rfl) c) (ev18 _ _ _ _ _ _ _ _ _) hs
   ·cases hs
end Go.Proofs.Gv
namespace Go.Proofs.Gv
open Go.Proofs
set_option maxRecDepth 20000
noncomputable def cI (es : List (List AV)) (i : Nat) : Int := intOf ((es.getD i []).getD (0 : Nat) AV.junk)
noncomputable def bdP (us ss : List (List AV)) (i : Nat) : Bool := bif !vev58_0 (cI us i) then true else bif !vev58_0 (cI ss i) then true else decide (cI ss i > cI us i)
theorem v59 (x : Int) : vev59_0 x = vev58_0 x := rfl
section
variable {us ss : List (List AV)} {d : Int}
theorem e20p (hn : us.length ≤ 1000) (hs : ss.length = us.length) : Ends (g20_5 (us, (us.length : Int), us, ss, d)) (n20_5 (us, (us.length : Int), us, ss, d)) (0 : Int) ((ff (bdP us ss) us.length : Nat) : Int) := by
 refine Ends.first _ _ (fun i hi => ?_) (fun i hi => nxt i _ hi hn)
 show go20_5 us (us.length : Int) (i : Int) us ss d = _
 unfold go20_5 rn20_5_0 rn20_5_1
 rw [Int.toNat_natCast, hs]
 by_cases h : i < us.length
 ·rw [decide_eq_true (show (i : Int) < (us.length : Int) by omega), decide_eq_true h, decide_eq_true (show (0 : Int) ≤ (i : Int) by omega)]
  show _ = (true && !bdP us ss i)
  unfold bdP cI
  cases (vev58_0 (intOf ((us.getD i []).getD 0 AV.junk))) <;> cases (vev58_0 (intOf ((ss.getD i []).getD 0 AV.junk))) <;> cases (decide (intOf ((ss.getD i []).getD 0 AV.junk) > intOf ((us.getD i []).getD 0 AV.junk))) <;> rfl
 ·rw [decide_eq_false (show ¬ (i : Int) < (us.length : Int) by omega), decide_eq_false h]
  rfl
theorem e21p (hn : us.length ≤ 1000) (hs : ss.length = us.length) : Ends (g21_4 (us, ss, d)) (n21_4 (us, ss, d)) (0 : Int) ((ff (bdP us ss) us.length : Nat) : Int) := by
 refine Ends.first _ _ (fun i hi => ?_) (fun i hi => nxt i _ hi hn)
 show go21_4 (i : Int) us ss d = _
 unfold go21_4 rn21_4_0 rn21_4_1
 rw [Int.toNat_natCast, hs]
 by_cases h : i < us.length
 ·rw [decide_eq_true (show (i : Int) < (us.length : Int) by omega), decide_eq_true h, decide_eq_true (show (0 : Int) ≤ (i : Int) by omega)]
  show _ = (true && !bdP us ss i)
  unfold bdP cI
  simp only [v59]
  cases (vev58_0 (intOf ((us.getD i []).getD 0 AV.junk))) <;> cases (vev58_0 (intOf ((ss.getD i []).getD 0 AV.junk))) <;> cases (decide (intOf ((ss.getD i []).getD 0 AV.junk) > intOf ((us.getD i []).getD 0 AV.junk))) <;> rfl
 ·rw [decide_eq_false (show ¬ (i : Int) < (us.length : Int) by omega), decide_eq_false h]
  rfl
end
noncomputable def ckP (us ss : List (List AV)) (d : Int) : Bool := bif bif decide ((us.length : Int) < 1) then true else bif decide ((us.length : Int) > 8) then true else bif (us.length : Int) != (ss.length : Int) then true else !vev58_0 d then false else !decide (ff (bdP us ss) us.length < us.length)
theorem c2021 (us ss : List (List AV)) (d : Int) (hn : us.length ≤ 1000) : vev20_0 us ss d = (bif ckP us ss d then 0 else 8) ∧ vev20_1 us ss d = true ∧ vev21_0 us ss d = (bif ckP us ss d then 0 else 8) ∧ vev21_1 us ss d = true := by
 unfold vev20_0 vev20_1 vev21_0 vev21_1 ckP
 simp only [v59]
 by_cases hs : ss.length = us.length
 ·have h := (e20p (d := d) hn hs).fin
  have h' := (e21p (d := d) hn hs).fin
  have hff := ff_le (bdP us ss) us.length
  have x0 : xc20_5_0 us (us.length : Int) ((ff (bdP us ss) us.length : Nat) : Int) us ss d = decide (ff (bdP us ss) us.length < us.length) := by
   unfold xc20_5_0 rn20_5_0 rn20_5_1
   rw [Int.toNat_natCast, hs]
   by_cases hl : ff (bdP us ss) us.length < us.length
   ·have hh := ff_hit hl
    rw [decide_eq_true (show ((ff (bdP us ss) us.length : Nat) : Int) < (us.length : Int) by omega), decide_eq_true hl, decide_eq_true (show (0 : Int) ≤ ((ff (bdP us ss) us.length : Nat) : Int) by omega)]
    generalize ff (bdP us ss) us.length = k at hh
    unfold bdP cI at hh
    revert hh
    cases (vev58_0 (intOf ((us.getD k []).getD 0 AV.junk))) <;> cases (vev58_0 (intOf ((ss.getD k []).getD 0 AV.junk))) <;> cases (decide (intOf ((ss.getD k []).getD 0 AV.junk) > intOf ((us.getD k []).getD 0 AV.junk))) <;> intro hh <;> first | rfl | cases hh
   ·rw [decide_eq_false (show ¬ ((ff (bdP us ss) us.length : Nat) : Int) < (us.length : Int) by omega), decide_eq_false hl]
    rfl
  have x1 : xc20_5_1 us (us.length : Int) ((ff (bdP us ss) us.length : Nat) : Int) us ss d = !decide (ff (bdP us ss) us.length < us.length) := by
   unfold xc20_5_1
   by_cases hl : ff (bdP us ss) us.length < us.length
   ·rw [decide_eq_true (show ((ff (bdP us ss) us.length : Nat) : Int) < (us.length : Int) by omega), decide_eq_true hl]; rfl
   ·rw [decide_eq_false (show ¬ ((ff (bdP us ss) us.length : Nat) : Int) < (us.length : Int) by omega), decide_eq_false hl]; rfl
  have y0 : xc21_4_0 ((ff (bdP us ss) us.length : Nat) : Int) us ss d = decide (ff (bdP us ss) us.length < us.length) := by
   unfold xc21_4_0 rn21_4_0 rn21_4_1
   rw [Int.toNat_natCast, hs]
   simp only [v59]
   by_cases hl : ff (bdP us ss) us.length < us.length
   ·have hh := ff_hit hl
    rw [decide_eq_true (show ((ff (bdP us ss) us.length : Nat) : Int) < (us.length : Int) by omega), decide_eq_true hl, decide_eq_true (show (0 : Int) ≤ ((ff (bdP us ss) us.length : Nat) : Int) by omega)]
    generalize ff (bdP us ss) us.length = k at hh
    unfold bdP cI at hh
    revert hh
    cases (vev58_0 (intOf ((us.getD k []).getD 0 AV.junk))) <;> cases (vev58_0 (intOf ((ss.getD k []).getD 0 AV.junk))) <;> cases (decide (intOf ((ss.getD k []).getD 0 AV.junk) > intOf ((us.getD k []).getD 0 AV.junk))) <;> intro hh <;> first | rfl | cases hh
   ·rw [decide_eq_false (show ¬ ((ff (bdP us ss) us.length : Nat) : Int) < (us.length : Int) by omega), decide_eq_false hl]
    rfl
  have y1 : xc21_4_1 ((ff (bdP us ss) us.length : Nat) : Int) us ss d = !decide (ff (bdP us ss) us.length < us.length) := by
   unfold xc21_4_1
   by_cases hl : ff (bdP us ss) us.length < us.length
   ·rw [decide_eq_true (show ((ff (bdP us ss) us.length : Nat) : Int) < (us.length : Int) by omega), decide_eq_true hl]; rfl
   ·rw [decide_eq_false (show ¬ ((ff (bdP us ss) us.length : Nat) : Int) < (us.length : Int) by omega), decide_eq_false hl]; rfl
  have s0 : (spI g20_5 n20_5 y20_5 z20_5 d20_5 ((us, (us.length : Int), us, ss, d), (0 : Int))).fst = true := by
   simp only [spI]
   rw [h.2, h.1]
   unfold y20_5 z20_5
   simp only [x0, x1]
   cases decide (ff (bdP us ss) us.length < us.length) <;> rfl
  have s1 : (spI g21_4 n21_4 y21_4 z21_4 d21_4 ((us, ss, d), (0 : Int))).fst = true := by
   simp only [spI]
   rw [h'.2, h'.1]
   unfold y21_4 z21_4
   simp only [y0, y1]
   cases decide (ff (bdP us ss) us.length < us.length) <;> rfl
  have r0 : rev20_0 us ss d = ((ff (bdP us ss) us.length : Nat) : Int) := h.2
  have r1 : rev21_0 us ss d = ((ff (bdP us ss) us.length : Nat) : Int) := h'.2
  rw [r0, r1, x0, y0, s0, s1]
  cases (bif decide ((us.length : Int) < 1) then true else bif decide ((us.length : Int) > 8) then true else bif (us.length : Int) != (ss.length : Int) then true else !vev58_0 d) <;> cases decide (ff (bdP us ss) us.length < us.length) <;> exact ⟨rfl, rfl, rfl, rfl⟩
 ·have hne : ((us.length : Int) != (ss.length : Int)) = true := by simp; omega
  rw [hne]
  cases decide ((us.length : Int) < 1) <;> cases decide ((us.length : Int) > 8) <;> exact ⟨rfl, rfl, rfl, rfl⟩
end Go.Proofs.Gv
namespace Go.Proofs.Gv
open Go.Proofs
set_option maxRecDepth 20000
noncomputable def preU (us : List (List AV)) : Nat → Int
 | 0 => 0
 | i + 1 => IntKind.i64.wrap (preU us i + cI us i)
theorem e22p {us : List (List AV)} (hn : us.length ≤ 1000) : Ends (g22_5 (us, (us.length : Int))) (n22_5 (us, (us.length : Int))) ((0 : Int), (0 : Int)) (preU us us.length, (us.length : Int)) := by
 refine Ends.count us.length (fun i : Nat => (preU us i, (i : Int))) (fun i hi => ⟨?_, ?_⟩) ?_
 ·show go22_5 (preU us i) us (us.length : Int) (i : Int) = true
  unfold go22_5
  rw [in2 hi, decide_eq_true (show (i : Int) < (us.length : Int) by omega)]
  rfl
 ·show (nx22_5_0 (preU us i) us (us.length : Int) (i : Int), nx22_5_3 (preU us i) us (us.length : Int) (i : Int)) = _
  unfold nx22_5_0 nx22_5_3
  rw [Int.toNat_natCast, nxt i us.length hi hn]
  rfl
 ·show go22_5 (preU us us.length) us (us.length : Int) (us.length : Int) = false
  unfold go22_5
  rw [decide_eq_false (show ¬ (us.length : Int) < (us.length : Int) by omega)]
  rfl
theorem e23p {us ss : List (List AV)} {d : Int} (hn : us.length ≤ 1000) (h0 : vev21_0 us ss d = 0) (h1 : vev21_1 us ss d = true) : Ends (g23_3 (us, ss, d)) (n23_3 (us, ss, d)) ((0 : Int), (0 : Int)) (preU us us.length, (us.length : Int)) := by
 refine Ends.count us.length (fun i : Nat => (preU us i, (i : Int))) (fun i hi => ⟨?_, ?_⟩) ?_
 ·show go23_3 (preU us i) (i : Int) us ss d = true
  unfold go23_3
  rw [h0, h1, in2 hi, decide_eq_true (show (i : Int) < (us.length : Int) by omega)]
  rfl
 ·show (nx23_3_0 (preU us i) (i : Int) us ss d, nx23_3_1 (preU us i) (i : Int) us ss d) = _
  unfold nx23_3_0 nx23_3_1
  rw [Int.toNat_natCast, nxt i us.length hi hn]
  rfl
 ·show go23_3 (preU us us.length) (us.length : Int) us ss d = false
  unfold go23_3
  rw [decide_eq_false (show ¬ (us.length : Int) < (us.length : Int) by omega)]
  rfl
theorem e23n {us ss : List (List AV)} {d : Int} (h0 : vev21_0 us ss d = 8) (h1 : vev21_1 us ss d = true) : Ends (g23_3 (us, ss, d)) (n23_3 (us, ss, d)) ((0 : Int), (0 : Int)) ((0 : Int), (0 : Int)) := by
 refine Ends.stop ?_
 show go23_3 (0 : Int) (0 : Int) us ss d = false
 unfold go23_3
 rw [h0, h1]
 cases decide ((0 : Int) < (us.length : Int)) <;> rfl
theorem c2223 (us ss : List (List AV)) (d : Int) (hn : us.length ≤ 1000) : vev22_0 us ss d = vev23_0 us ss d ∧ vev22_1 us ss d = true ∧ vev23_1 us ss d = true := by
 obtain ⟨c0, c1, d0, d1⟩ := c2021 us ss d hn
 cases hc : ckP us ss d with
 | true =>
   rw [hc, cond_true] at c0 d0
   have h := (e22p hn).fin
   have h' := (e23p hn d0 d1).fin
   have hx : xc22_5_0 (preU us us.length) us (us.length : Int) (us.length : Int) = true := by
    unfold xc22_5_0
    rw [decide_eq_false (show ¬ (us.length : Int) < (us.length : Int) by omega)]
    rfl
   have hx' : xc23_3_0 (preU us us.length) (us.length : Int) us ss d = true := by
    unfold xc23_3_0
    rw [decide_eq_false (show ¬ (us.length : Int) < (us.length : Int) by omega)]
    rfl
   have hs : (spI g22_5 n22_5 y22_5 z22_5 d22_5 ((us, (us.length : Int)), (0 : Int), (0 : Int))).fst = true := by
    simp only [spI]
    rw [h.2, h.1]
    unfold y22_5 z22_5
    simp only [hx]
    rfl
   have hs' : (spI g23_3 n23_3 y23_3 z23_3 d23_3 ((us, ss, d), (0 : Int), (0 : Int))).fst = true := by
    simp only [spI]
    rw [h'.2, h'.1]
    unfold y23_3 z23_3
    simp only [hx']
    rfl
   have r0 : rev22_0 us ss d = (preU us us.length, (us.length : Int)) := h.2
   have r1 : rev23_0 us ss d = (preU us us.length, (us.length : Int)) := h'.2
   unfold vev22_0 vev22_1 vev23_0 vev23_1
   rw [c0, c1, r0, r1, hs, hs']
   exact ⟨rfl, rfl, rfl⟩
 | false =>
   rw [hc, cond_false] at c0 d0
   have h' := (e23n d0 d1).fin
   have hx' : xc23_3_0 (0 : Int) (0 : Int) us ss d = true := by
    unfold xc23_3_0
    rw [d0, d1]
    cases decide ((0 : Int) < (us.length : Int)) <;> rfl
   have hs' : (spI g23_3 n23_3 y23_3 z23_3 d23_3 ((us, ss, d), (0 : Int), (0 : Int))).fst = true := by
    simp only [spI]
    rw [h'.2, h'.1]
    unfold y23_3 z23_3
    simp only [hx']
    rfl
   have r1 : rev23_0 us ss d = ((0 : Int), (0 : Int)) := h'.2
   unfold vev22_0 vev22_1 vev23_0 vev23_1
   rw [c0, c1, r1, hs']
   exact ⟨rfl, rfl, rfl⟩
theorem c57s (a : List (List AV)) (hn : a.length ≤ 1000) : vev57_0 a a = true ∧ vev57_1 a a = true := by
 have h : Ends (g57_4 (a, a)) (n57_4 (a, a)) (0 : Int) (a.length : Int) := by
  refine Ends.count a.length (fun i : Nat => (i : Int)) (fun i hi => ⟨?_, ?_⟩) ?_
  ·show go57_4 a a (i : Int) = true
   unfold go57_4
   rw [in2 hi, decide_eq_true (show (i : Int) < (a.length : Int) by omega)]
   simp
  ·show nx57_4_2 a a (i : Int) = _
   exact nxt i a.length hi hn
  ·show go57_4 a a (a.length : Int) = false
   unfold go57_4
   rw [decide_eq_false (show ¬ (a.length : Int) < (a.length : Int) by omega)]
   rfl
 have h := h.fin
 have x0 : xc57_4_0 a a (a.length : Int) = false := by
  unfold xc57_4_0
  rw [decide_eq_false (show ¬ (a.length : Int) < (a.length : Int) by omega)]
  rfl
 have x1 : xc57_4_1 a a (a.length : Int) = true := by
  unfold xc57_4_1
  rw [decide_eq_false (show ¬ (a.length : Int) < (a.length : Int) by omega)]
  rfl
 have hs : (spI g57_4 n57_4 y57_4 z57_4 d57_4 ((a, a), (0 : Int))).fst = true := by
  simp only [spI]
  rw [h.2, h.1]
  unfold y57_4 z57_4
  simp only [x0, x1]
  rfl
 have r0 : rev57_0 a a = (a.length : Int) := h.2
 unfold vev57_0 vev57_1
 rw [r0, x0, hs, bne_self_eq_false]
 exact ⟨rfl, rfl⟩
theorem c19s (us ss : List (List AV)) (d : Int) (hn : us.length ≤ 1000) (hm : ss.length ≤ 1000) : vev19_0 us ss d us ss d = true ∧ vev19_1 us ss d us ss d = true := by
 have a := c57s us hn
 have b := c57s ss hm
 unfold vev19_0 vev19_1
 rw [a.1, a.2, b.1, b.2, beq_self_eq_true]
 exact ⟨rfl, rfl⟩
noncomputable def blk (us ss : List (List AV)) (d w : Int) : Bool := bif !ckP us ss d then true else bif decide (w < 0) then true else bif decide (w ≥ (us.length : Int)) then true else decide (cI us w.toNat > 1099511626776)
theorem ck_len {us ss : List (List AV)} {d : Int} (h : ckP us ss d = true) : ss.length = us.length ∧ us.length ≤ 8 := by
 unfold ckP at h
 by_cases a : (us.length : Int) > 8
 ·rw [decide_eq_true a] at h
  revert h
  cases decide ((us.length : Int) < 1) <;> intro h <;> cases h
 by_cases b : ss.length = us.length
 ·exact ⟨b, by omega⟩
 ·have : ((us.length : Int) != (ss.length : Int)) = true := by simp; omega
  rw [this] at h
  revert h
  cases decide ((us.length : Int) < 1) <;> cases decide ((us.length : Int) > 8) <;> intro h <;> cases h
theorem bif4 {α : Type} (a b c e : Bool) (x y : α) : (bif a then x else bif b then x else bif c then x else bif e then x else y) = bif (bif a then true else bif b then true else bif c then true else e) then x else y := by
 cases a <;> cases b <;> cases c <;> cases e <;> rfl
theorem blk76 (us ss : List (List AV)) (d w : Int) (hn : us.length ≤ 1000) : vev76_0 us ss d w = !blk us ss d w ∧ vev76_1 us ss d w = true := by
 obtain ⟨c0, c1, _, _⟩ := c2021 us ss d hn
 have hr : rev76_0 us ss d w = cI us w.toNat := rfl
 unfold vev76_0 vev76_1 blk
 rw [c0, c1, hr]
 generalize cI us w.toNat = x
 have e1 : decide (w ≥ 0) = !decide (w < 0) := by by_cases h : w < 0 <;> simp [h] <;> omega
 have e2 : decide (w < (us.length : Int)) = !decide (w ≥ (us.length : Int)) := by by_cases h : w ≥ (us.length : Int) <;> simp [h] <;> omega
 have e3 : decide (x ≤ 1099511626776) = !decide (x > 1099511626776) := by by_cases h : x > 1099511626776 <;> simp [h] <;> omega
 rw [e1, e2, e3]
 cases ckP us ss d <;> cases decide (w < 0) <;> cases decide (w ≥ (us.length : Int)) <;> cases decide (x > 1099511626776) <;> exact ⟨rfl, rfl⟩
section
variable {us ss : List (List AV)} {d w q lim t k : Int} {L : List (List AV)}
theorem blk18 (hn : us.length ≤ 1000) : (bif vev21_0 us ss d != 0 then true else bif decide (w < 0) then true else bif decide (w ≥ (us.length : Int)) then true else decide (rev18_0 us ss d q lim t k L w > 1099511626776)) = blk us ss d w := by
 obtain ⟨_, _, c0, _⟩ := c2021 us ss d hn
 have hr : rev18_0 us ss d q lim t k L w = cI us w.toNat := rfl
 unfold blk
 rw [c0, hr]
 cases ckP us ss d <;> rfl
theorem ok18 (hn : us.length ≤ 1000) : vev18_11 us ss d q lim t k L w = bif blk us ss d w then true else bif vev32_8 q lim t k L then true else false := by
 obtain ⟨_, _, c0, c1⟩ := c2021 us ss d hn
 have hr : rev18_0 us ss d q lim t k L w = cI us w.toNat := rfl
 unfold vev18_11 blk
 rw [c0, c1, hr]
 cases hc : ckP us ss d with
 | false => rfl
 | true =>
   have hl := ck_len hc
   by_cases h1 : w < 0
   ·simp [h1]
   by_cases h2 : w ≥ (us.length : Int)
   ·simp [h2]
   have e0 : (decide (0 ≤ w) && decide (w < (us.length : Int))) = true := by simp; omega
   rw [hl.1, e0, decide_eq_false h1, decide_eq_false h2, decide_eq_true (show us.length * 8 ≤ 140737488355328 by omega), decide_eq_true (show us.length ≤ 9223372036854775807 by omega)]
   cases decide (cI us w.toNat > 1099511626776) <;> cases vev32_8 q lim t k L <;> cases vev32_7 q lim t k L <;> rfl
end
structure Trn (S S' : Sc) (L L' us ss : List (List AV)) (d w : Int) (us' ss' : List (List AV)) (d' : Int) (o : List (List AV)) : Prop where
 I : Inv S'
 q : S'.q = S.q
 lim : S'.lim = S.lim
 ord : ordsF S'.fs = ordsF S.fs
 lk : Lk L' S'.fs
 nu : us'.length = us.length
 ns : ss'.length = ss.length
 one : o.length ≤ 1
 c12 : vev39_12 us ss d w S.q S.lim S.t S.k (ordsF S.fs) (tabsF S.fs) (R S.h) = true
 c0 : vev39_0 us ss d w S.q S.lim S.t S.k (ordsF S.fs) (tabsF S.fs) (R S.h) = us'
 c1 : vev39_1 us ss d w S.q S.lim S.t S.k (ordsF S.fs) (tabsF S.fs) (R S.h) = ss'
 c2 : vev39_2 us ss d w S.q S.lim S.t S.k (ordsF S.fs) (tabsF S.fs) (R S.h) = d'
 cx : xR (vev39_7 us ss d w S.q S.lim S.t S.k (ordsF S.fs) (tabsF S.fs) (R S.h)) (vev39_3 us ss d w S.q S.lim S.t S.k (ordsF S.fs) (tabsF S.fs) (R S.h)) (vev39_4 us ss d w S.q S.lim S.t S.k (ordsF S.fs) (tabsF S.fs) (R S.h)) (vev39_5 us ss d w S.q S.lim S.t S.k (ordsF S.fs) (tabsF S.fs) (R S.h)) (vev39_6 us ss d w S.q S.lim S.t S.k (ordsF S.fs) (tabsF S.fs) (R S.h)) = o
 c8 : vev39_8 us ss d w S.q S.lim S.t S.k (ordsF S.fs) (tabsF S.fs) (R S.h) = R S'.h
 c9 : vev39_9 us ss d w S.q S.lim S.t S.k (ordsF S.fs) (tabsF S.fs) (R S.h) = S'.t
 c10 : vev39_10 us ss d w S.q S.lim S.t S.k (ordsF S.fs) (tabsF S.fs) (R S.h) = S'.k
 c11 : vev39_11 us ss d w S.q S.lim S.t S.k (ordsF S.fs) (tabsF S.fs) (R S.h) = tabsF S'.fs
 d11 : vev18_11 us ss d S.q S.lim S.t S.k L w = true
 d0 : vev18_0 us ss d S.q S.lim S.t S.k L w = us'
 d1 : vev18_1 us ss d S.q S.lim S.t S.k L w = ss'
 d2 : vev18_2 us ss d S.q S.lim S.t S.k L w = d'
 d3 : vev18_3 us ss d S.q S.lim S.t S.k L w = L'
 d4 : vev18_4 us ss d S.q S.lim S.t S.k L w = S'.t
 d5 : vev18_5 us ss d S.q S.lim S.t S.k L w = S'.k
 dx : xR (vev18_10 us ss d S.q S.lim S.t S.k L w) (vev18_6 us ss d S.q S.lim S.t S.k L w) (vev18_7 us ss d S.q S.lim S.t S.k L w) (vev18_8 us ss d S.q S.lim S.t S.k L w) (vev18_9 us ss d S.q S.lim S.t S.k L w) = o
theorem v56 (us ss : List (List AV)) (d : Int) (hn : us.length ≤ 1000) (hm : ss.length ≤ 1000) : vev56_0 us ss d = true := by
 unfold vev56_0
 rw [Nat.ble_eq_true_of_le (show us.length * 8 ≤ 140737488355328 by omega), Nat.ble_eq_true_of_le (show ss.length * 8 ≤ 140737488355328 by omega)]
 rfl
theorem capI (x : Int) : (if if false = true then x < 1099511627776 else 1099511627776 < x then 1099511627776 else x) = (if if false = true then 1099511627776 < x else x < 1099511627776 then x else 1099511627776) := by
 simp only [Bool.false_eq_true, if_false]
 split <;> split <;> omega
theorem turnP {S : Sc} (I : Inv S) {L us ss : List (List AV)} (hL : Lk L S.fs) (d w : Int) (hn : us.length ≤ 1000) (hm : ss.length ≤ 1000) : ∃ S' L' us' ss' d' o, Trn S S' L L' us ss d w us' ss' d' o := by
 have c := blk76 us ss d w hn
 have h56 := v56 us ss d hn hm
 cases hb : blk us ss d w with
 | true =>
   have h18 := blk18 (us := us) (ss := ss) (d := d) (w := w) (q := S.q) (lim := S.lim) (t := S.t) (k := S.k) (L := L) hn
   have ho := ok18 (us := us) (ss := ss) (d := d) (w := w) (q := S.q) (lim := S.lim) (t := S.t) (k := S.k) (L := L) hn
   rw [hb] at c h18 ho
   refine ⟨S, L, us, ss, d, [], I, rfl, rfl, rfl, hL, rfl, rfl, by simp, ?_, ?_, ?_, ?_, ?_, ?_, ?_, ?_, ?_, ho, ?_, ?_, ?_, ?_, ?_, ?_, ?_⟩
   ·unfold vev39_12; rw [h56, c.1, c.2]; rfl
   ·unfold vev39_0; rw [c.1]; rfl
   ·unfold vev39_1; rw [c.1]; rfl
   ·unfold vev39_2; rw [c.1]; rfl
   ·unfold vev39_7; rw [c.1]; rfl
   ·unfold vev39_8; rw [c.1]; rfl
   ·unfold vev39_9; rw [c.1]; rfl
   ·unfold vev39_10; rw [c.1]; rfl
   ·unfold vev39_11; rw [c.1]; rfl
   ·unfold vev18_0; rw [bif4, h18]; rfl
   ·unfold vev18_1; rw [bif4, h18]; rfl
   ·unfold vev18_2; rw [bif4, h18]; rfl
   ·unfold vev18_3; rw [bif4, h18]; rfl
   ·unfold vev18_4; rw [bif4, h18]; rfl
   ·unfold vev18_5; rw [bif4, h18]; rfl
   ·unfold vev18_10; rw [bif4, h18]; rfl
 | false =>
   have h18 := blk18 (us := us) (ss := ss) (d := d) (w := w) (q := S.q) (lim := S.lim) (t := S.t) (k := S.k) (L := L) hn
   have ho := ok18 (us := us) (ss := ss) (d := d) (w := w) (q := S.q) (lim := S.lim) (t := S.t) (k := S.k) (L := L) hn
   rw [hb] at c h18 ho
   have hck : ckP us ss d = true := by
    cases h : ckP us ss d with
    | true => rfl
    | false => unfold blk at hb; rw [h] at hb; cases hb
   have hw : 0 ≤ w ∧ w < (us.length : Int) := by
    unfold blk at hb
    rw [hck] at hb
    by_cases h1 : w < 0
    ·rw [decide_eq_true h1] at hb; cases hb
    ·by_cases h2 : w ≥ (us.length : Int)
     ·rw [decide_eq_true h2, decide_eq_false h1] at hb; cases hb
     ·omega
   have hl := ck_len hck
   obtain ⟨o, S', I', hst, ⟨⟨a0, a1, a2, a3, a4⟩, a5, a6, a7, a8, a9, b1, b2, b3⟩, hd⟩ := serve31 I
   obtain ⟨⟨e0, e1, e2, e3, e4⟩, e5, e6, e7, e8⟩ := hd L hL
   have r1 : rev39_1 us ss d w S.q S.lim S.t S.k (ordsF S.fs) (tabsF S.fs) (R S.h) = o.u := a2
   have i1 : (decide (0 ≤ w) && decide (w < (us.length : Int))) = true := by simp; omega
   have i2 : (decide (0 ≤ w) && decide (w < (ss.length : Int))) = true := by rw [hl.1]; exact i1
   cases hob : o.b with
   | false =>
     rw [hob] at a4 e4
     have hS : S = S' := by
      rcases hst with ⟨_, h, _⟩ | ⟨i, k, _, rfl⟩
      ·exact h.symm
      ·cases hob
     subst hS
     refine ⟨S, L, us, ss, vev39_2 us ss d w S.q S.lim S.t S.k (ordsF S.fs) (tabsF S.fs) (R S.h), [], I, rfl, rfl, rfl, hL, rfl, rfl, by simp, ?_, ?_, ?_, ?_, ?_, ?_, ?_, ?_, ?_, ?_, ?_, ?_, ?_, ?_, ?_, ?_, ?_⟩
     ·unfold vev39_12; rw [h56, c.1, c.2, b3, a4]; rfl
     ·unfold vev39_0; rw [c.1, a4]; rfl
     ·unfold vev39_1; rw [c.1, a4]; rfl
     ·rfl
     ·unfold vev39_7; rw [c.1, a4]; rfl
     ·unfold vev39_8; rw [c.1]; exact a5
     ·unfold vev39_9; rw [c.1]; exact a6
     ·unfold vev39_10; rw [c.1]; exact a7
     ·unfold vev39_11; rw [c.1]; exact a8
     ·rw [ho, e8]; rfl
     ·unfold vev18_0; rw [bif4, h18, e4]; rfl
     ·unfold vev18_1; rw [bif4, h18, e4]; rfl
     ·unfold vev18_2 vev39_2; rw [bif4, h18, e4, c.1, a4]
      exact (capI (IntKind.i64.wrap (d + 1))).symm
     ·unfold vev18_3; rw [bif4, h18, e4]; rfl
     ·unfold vev18_4; rw [bif4, h18, e4]; rfl
     ·unfold vev18_5; rw [bif4, h18, e4]; rfl
     ·unfold vev18_10; rw [bif4, h18, e4]; rfl
   | true =>
     rw [hob] at a4 e4
     refine ⟨S', vev32_0 S.q S.lim S.t S.k L, us.set w.toNat [AV.int IntKind.i64 (IntKind.i64.wrap (cI us w.toNat + o.u))], ss.set w.toNat [AV.int IntKind.i64 (IntKind.i64.wrap (cI ss w.toNat + 1))], d, [[.int .i64 o.c, .int .i64 o.i, .int .i64 o.u, .int .i64 o.l]], I', b1, b2, a9.symm, e5, by simp, by simp, by simp, ?_, ?_, ?_, ?_, ?_, ?_, ?_, ?_, ?_, ?_, ?_, ?_, ?_, ?_, ?_, ?_, ?_⟩
     ·unfold vev39_12; rw [h56, c.1, c.2, b3, a4, i1, i2]; rfl
     ·unfold vev39_0; rw [c.1, a4, r1]; rfl
     ·unfold vev39_1; rw [c.1, a4]; rfl
     ·unfold vev39_2; rw [c.1, a4]; rfl
     ·unfold vev39_7 vev39_3 vev39_4 vev39_5 vev39_6; rw [c.1, a4, a0, a1, r1, a3]; rfl
     ·unfold vev39_8; rw [c.1]; exact a5
     ·unfold vev39_9; rw [c.1]; exact a6
     ·unfold vev39_10; rw [c.1]; exact a7
     ·unfold vev39_11; rw [c.1]; exact a8
     ·rw [ho, e8]; rfl
     ·unfold vev18_0; rw [bif4, h18, e4, e2]; rfl
     ·unfold vev18_1; rw [bif4, h18, e4]; rfl
     ·unfold vev18_2; rw [bif4, h18, e4]; rfl
     ·unfold vev18_3; rw [bif4, h18, e4]; rfl
     ·unfold vev18_4; rw [bif4, h18, e4]; exact e6
     ·unfold vev18_5; rw [bif4, h18, e4]; exact e7
     ·unfold vev18_10 vev18_6 vev18_7 vev18_8 vev18_9; rw [bif4, bif4, bif4, bif4, bif4, h18, e4, e0, e1, e2, e3]; rfl
end Go.Proofs.Gv
namespace Go.Proofs.Gv
open Go.Proofs
noncomputable def rn3_8_0 (a b : LL) (e f g : Int) (h : LL) (i j : Int) (k l : LL) (m o p : Int) (q : LL) (r s : Int) (c d : LL) : Int := IntKind.i64.wrap (1 + e.tmod 3)
noncomputable def rn3_8_1 (a b : LL) (e f g : Int) (h : LL) (i j : Int) (k l : LL) (m o p : Int) (q : LL) (r s : Int) (c d : LL) : LL := vev13_1 o p r s c d q (e.tmod 3) (rn3_8_0 a b e f g h i j k l m o p q r s c d)
noncomputable def rn3_8_2 (a b : LL) (e f g : Int) (h : LL) (i j : Int) (k l : LL) (m o p : Int) (q : LL) (r s : Int) (c d : LL) : LL := vev13_2 o p r s c d q (e.tmod 3) (rn3_8_0 a b e f g h i j k l m o p q r s c d)
noncomputable def rn3_8_3 (a b : LL) (e f g : Int) (h : LL) (i j : Int) (k l : LL) (m o p : Int) (q : LL) (r s : Int) (c d : LL) : Int := IntKind.i64.wrap (e + 1)
noncomputable def rn3_8_4 (a b : LL) (e f g : Int) (h : LL) (i j : Int) (k l : LL) (m o p : Int) (q : LL) (r s : Int) (c d : LL) : Int := intOf ((a.getD e.toNat []).getD 0 AV.junk)
noncomputable def rn3_8_5 (a b : LL) (e f g : Int) (h : LL) (i j : Int) (k l : LL) (m o p : Int) (q : LL) (r s : Int) (c d : LL) : Int := IntKind.i64.wrap ((rn3_8_4 a b e f g h i j k l m o p q r s c d).tmod 8)
noncomputable def rn3_8_6 (a b : LL) (e f g : Int) (h : LL) (i j : Int) (k l : LL) (m o p : Int) (q : LL) (r s : Int) (c d : LL) : Int := IntKind.i64.wrap (1 + IntKind.i64.wrap (rn3_8_4 a b e f g h i j k l m o p q r s c d))
noncomputable def rn3_8_7 (a b : LL) (e f g : Int) (h : LL) (i j : Int) (k l : LL) (m o p : Int) (q : LL) (r s : Int) (c d : LL) : LL := vev14_0 f g i j h (e.tmod 3) (rn3_8_0 a b e f g h i j k l m o p q r s c d)
noncomputable def go3_8 (a b : LL) (e f g : Int) (h : LL) (i j : Int) (k l : LL) (m o p : Int) (q : LL) (r s : Int) (c d : LL) : Bool := bif decide (e < (↑a.length : Int)) then bif vev13_3 o p r s c d q (e.tmod 3) (rn3_8_0 a b e f g h i j k l m o p q r s c d) then bif vev14_2 f g i j h (e.tmod 3) (rn3_8_0 a b e f g h i j k l m o p q r s c d) then bif decide (0 ≤ e) && decide (e < (↑a.length : Int)) then bif vev15_3 o p r s (rn3_8_1 a b e f g h i j k l m o p q r s c d) (rn3_8_2 a b e f g h i j k l m o p q r s c d) q (e.tmod 3) (rn3_8_3 a b e f g h i j k l m o p q r s c d) (rn3_8_5 a b e f g h i j k l m o p q r s c d) (rn3_8_6 a b e f g h i j k l m o p q r s c d) then vev16_2 f g i j (rn3_8_7 a b e f g h i j k l m o p q r s c d) (e.tmod 3) (rn3_8_3 a b e f g h i j k l m o p q r s c d) (rn3_8_5 a b e f g h i j k l m o p q r s c d) (rn3_8_6 a b e f g h i j k l m o p q r s c d) else false else false else false else false else false
noncomputable def nx3_8_2 (a b : LL) (e f g : Int) (h : LL) (i j : Int) (k l : LL) (m o p : Int) (q : LL) (r s : Int) (c d : LL) : Int := rn3_8_3 a b e f g h i j k l m o p q r s c d
noncomputable def nx3_8_5 (a b : LL) (e f g : Int) (h : LL) (i j : Int) (k l : LL) (m o p : Int) (q : LL) (r s : Int) (c d : LL) : LL := vev16_0 f g i j (rn3_8_7 a b e f g h i j k l m o p q r s c d) (e.tmod 3) (rn3_8_3 a b e f g h i j k l m o p q r s c d) (rn3_8_5 a b e f g h i j k l m o p q r s c d) (rn3_8_6 a b e f g h i j k l m o p q r s c d)
noncomputable def nx3_8_13 (a b : LL) (e f g : Int) (h : LL) (i j : Int) (k l : LL) (m o p : Int) (q : LL) (r s : Int) (c d : LL) : LL := vev15_1 o p r s (rn3_8_1 a b e f g h i j k l m o p q r s c d) (rn3_8_2 a b e f g h i j k l m o p q r s c d) q (e.tmod 3) (rn3_8_3 a b e f g h i j k l m o p q r s c d) (rn3_8_5 a b e f g h i j k l m o p q r s c d) (rn3_8_6 a b e f g h i j k l m o p q r s c d)
noncomputable def nx3_8_16 (a b : LL) (e f g : Int) (h : LL) (i j : Int) (k l : LL) (m o p : Int) (q : LL) (r s : Int) (c d : LL) : LL := rn3_8_1 a b e f g h i j k l m o p q r s c d
noncomputable def nx3_8_17 (a b : LL) (e f g : Int) (h : LL) (i j : Int) (k l : LL) (m o p : Int) (q : LL) (r s : Int) (c d : LL) : LL := vev15_2 o p r s (rn3_8_1 a b e f g h i j k l m o p q r s c d) (rn3_8_2 a b e f g h i j k l m o p q r s c d) q (e.tmod 3) (rn3_8_3 a b e f g h i j k l m o p q r s c d) (rn3_8_5 a b e f g h i j k l m o p q r s c d) (rn3_8_6 a b e f g h i j k l m o p q r s c d)
noncomputable def xc3_8_0 (a b : LL) (e f g : Int) (h : LL) (i j : Int) (k l : LL) (m o p : Int) (q : LL) (r s : Int) (c d : LL) : Bool := bif decide (e < (↑a.length : Int)) then false else true
theorem rd3_8 (rest : Lsp) (a b : LL) (e f g : Int) (i : LL) (j k : Int) (l m : LL) (o p q : Int) (r : LL) (s t : Int) (c d : LL) : rV k18 rest 3 0 Try.f3 8 [1, 2, 3, 7, 9, 11] [6, 7, 9, 10, 11, 12, 13] [2, 3, 7, 9] [6, 7, 9, 10, 11] [AV.sl Tk.imm [Kd.int IntKind.u8] a, AV.sl Tk.imm kI1 b, AV.hp 7 0, AV.hp 9 0, AV.hp 6 0, iA e] [Blk.var [iA f, iA g, AV.sl Tk.imm kF i, iA j, iA k], Blk.var [AV.sl Tk.imm kI1 l, AV.sl Tk.imm kI1 m, iA o], bV p q 10 11 r s t, Blk.row kI1 c, Blk.tbl kF d none, Blk.dead, Blk.dead] = bif go3_8 a b e f g i j k l m o p q r s t c d then some (Ex.norm, [AV.sl Tk.imm [Kd.int IntKind.u8] a, AV.sl Tk.imm kI1 b, AV.hp 7 0, AV.hp 9 0, AV.hp 6 0, iA (nx3_8_2 a b e f g i j k l m o p q r s t c d)], [Blk.var [iA f, iA g, AV.sl Tk.imm kF (nx3_8_5 a b e f g i j k l m o p q r s t c d), iA j, iA k], Blk.var [AV.sl Tk.imm kI1 l, AV.sl Tk.imm kI1 m, iA o], bV p q 10 11 (nx3_8_13 a b e f g i j k l m o p q r s t c d) s t, Blk.row kI1 (nx3_8_16 a b e f g i j k l m o p q r s t c d), Blk.tbl kF (nx3_8_17 a b e f g i j k l m o p q r s t c d) none, Blk.dead, Blk.dead]) else bif xc3_8_0 a b e f g i j k l m o p q r s t c d then some (Ex.exit 0, [AV.sl Tk.imm kI1 b, AV.hp 7 0, AV.hp 9 0, AV.hp 6 0], [Blk.var [iA f, iA g, AV.sl Tk.imm kF i, iA j, iA k], Blk.var [AV.sl Tk.imm kI1 l, AV.sl Tk.imm kI1 m, iA o], bV p q 10 11 r s t, Blk.row kI1 c, Blk.tbl kF d none]) else none := by
 refine Eq.trans (b := bif decide (e < (↑a.length : Int)) then bif vev13_3 p q s t c d r (e.tmod 3) (rn3_8_0 a b e f g i j k l m o p q r s t c d) then bif vev14_2 f g j k i (e.tmod 3) (rn3_8_0 a b e f g i j k l m o p q r s t c d) then bif decide (0 ≤ e) && decide (e < (↑a.length : Int)) then bif decide (0 ≤ e) && decide (e < (↑a.length : Int)) then bif vev15_3 p q s t (rn3_8_1 a b e f g i j k l m o p q r s t c d) (rn3_8_2 a b e f g i j k l m o p q r s t c d) r (e.tmod 3) (rn3_8_3 a b e f g i j k l m o p q r s t c d) (rn3_8_5 a b e f g i j k l m o p q r s t c d) (rn3_8_6 a b e f g i j k l m o p q r s t c d) then bif decide (0 ≤ e) && decide (e < (↑a.length : Int)) then bif decide (0 ≤ e) && decide (e < (↑a.length : Int)) then bif vev16_2 f g j k (rn3_8_7 a b e f g i j k l m o p q r s t c d) (e.tmod 3) (rn3_8_3 a b e f g i j k l m o p q r s t c d) (rn3_8_5 a b e f g i j k l m o p q r s t c d) (rn3_8_6 a b e f g i j k l m o p q r s t c d) then some (Ex.norm, [AV.sl Tk.imm [Kd.int IntKind.u8] a, AV.sl Tk.imm kI1 b, AV.hp 7 0, AV.hp 9 0, AV.hp 6 0, iA (rn3_8_3 a b e f g i j k l m o p q r s t c d)], [Blk.var [iA f, iA g, AV.sl Tk.imm kF (vev16_0 f g j k (rn3_8_7 a b e f g i j k l m o p q r s t c d) (e.tmod 3) (rn3_8_3 a b e f g i j k l m o p q r s t c d) (rn3_8_5 a b e f g i j k l m o p q r s t c d) (rn3_8_6 a b e f g i j k l m o p q r s t c d)), iA j, iA k], Blk.var [AV.sl Tk.imm kI1 l, AV.sl Tk.imm kI1 m, iA o], bV p q 10 11 (vev15_1 p q s t (rn3_8_1 a b e f g i j k l m o p q r s t c d) (rn3_8_2 a b e f g i j k l m o p q r s t c d) r (e.tmod 3) (rn3_8_3 a b e f g i j k l m o p q r s t c d) (rn3_8_5 a b e f g i j k l m o p q r s t c d) (rn3_8_6 a b e f g i j k l m o p q r s t c d)) s t, Blk.row kI1 (rn3_8_1 a b e f g i j k l m o p q r s t c d), Blk.tbl kF (vev15_2 p q s t (rn3_8_1 a b e f g i j k l m o p q r s t c d) (rn3_8_2 a b e f g i j k l m o p q r s t c d) r (e.tmod 3) (rn3_8_3 a b e f g i j k l m o p q r s t c d) (rn3_8_5 a b e f g i j k l m o p q r s t c d) (rn3_8_6 a b e f g i j k l m o p q r s t c d)) none, Blk.dead, Blk.dead]) else none else none else none else none else none else none else none else none else some (Ex.exit 0, [AV.sl Tk.imm kI1 b, AV.hp 7 0, AV.hp 9 0, AV.hp 6 0], [Blk.var [iA f, iA g, AV.sl Tk.imm kF i, iA j, iA k], Blk.var [AV.sl Tk.imm kI1 l, AV.sl Tk.imm kI1 m, iA o], bV p q 10 11 r s t, Blk.row kI1 c, Blk.tbl kF d none])) (by kernel_rfl) ?_
 unfold go3_8 nx3_8_2 nx3_8_5 nx3_8_13 nx3_8_16 nx3_8_17 xc3_8_0
 generalize (vev15_3 _ _ _ _ _ _ _ _ _ _ _) = c0
 generalize (vev16_2 _ _ _ _ _ _ _ _ _) = c1
 generalize (decide (0 ≤ e) && decide (e < (↑a.length : Int))) = c2
 generalize (vev13_3 _ _ _ _ _ _ _ _ _) = c3
 generalize (vev14_2 _ _ _ _ _ _ _) = c4
 generalize (decide (e < (↑a.length : Int))) = c5
 cases c5; rfl; cases c3; rfl; cases c4; rfl; cases c2; rfl; cases c0; rfl; cases c1; rfl; rfl
abbrev pl3_8 : Type := LL × LL × Int × Int × Int × Int × LL × LL × Int × Int × Int × Int × Int
abbrev sl3_8 : Type := Int × LL × LL × LL × LL
noncomputable def vt3_8 (a : pl3_8 × sl3_8) : List AV := [AV.sl Tk.imm [Kd.int IntKind.u8] a.1.1, AV.sl Tk.imm kI1 a.1.2.1, AV.hp 7 0, AV.hp 9 0, AV.hp 6 0, iA a.2.1]
noncomputable def vc3_8 (a : pl3_8 × sl3_8) : List Blk := [Blk.var [iA a.1.2.2.1, iA a.1.2.2.2.1, AV.sl Tk.imm kF a.2.2.1, iA a.1.2.2.2.2.1, iA a.1.2.2.2.2.2.1], Blk.var [AV.sl Tk.imm kI1 a.1.2.2.2.2.2.2.1, AV.sl Tk.imm kI1 a.1.2.2.2.2.2.2.2.1, iA a.1.2.2.2.2.2.2.2.2.1], bV a.1.2.2.2.2.2.2.2.2.2.1 a.1.2.2.2.2.2.2.2.2.2.2.1 10 11 a.2.2.2.1 a.1.2.2.2.2.2.2.2.2.2.2.2.1 a.1.2.2.2.2.2.2.2.2.2.2.2.2, Blk.row kI1 a.2.2.2.2.1, Blk.tbl kF a.2.2.2.2.2 none, Blk.dead, Blk.dead]
noncomputable def de3_8 (vt : List AV) (vc : List Blk) : Option (pl3_8 × sl3_8) :=
 match vt with
 | [qa0, qa1, qa2, qa3, qa4, qa5] => (match vc with
 | [qb0, qb1, qb2, qb3, qb4, qb5, qb6] => (match qa0 with
 | .sl Tk.imm [Kd.int IntKind.u8] t1 => (match qa1 with
 | .sl Tk.imm [.int .i64] t2 => (match qa2 with
 | AV.hp (7) (0) => (match qa3 with
 | AV.hp (9) (0) => (match qa4 with
 | AV.hp (6) (0) => (match qa5 with
 | .int .i64 t11 => (match qb0 with
 | .var [.int .i64 b6_0, .int .i64 b6_1, .sl Tk.imm [.int .i64, .int .i64, .int .i64, .int .i64, .int .i64, .int .i64, .sl [.int .i64, .int .i64, .int .i64, .int .i64]] b6_2, .int .i64 b6_3, .int .i64 b6_4] => (match qb1 with
 | .var [.sl Tk.imm [.int .i64] b7_0, .sl Tk.imm [.int .i64] b7_1, .int .i64 b7_2] => (match qb2 with
 | .var [.int .i64 b9_0, .int .i64 b9_1, AV.rf (10) [.int .i64], AV.mp (11) [.int .i64, .int .i64, .int .i64, .int .i64, .int .i64, .int .i64, .sl [.int .i64, .int .i64, .int .i64, .int .i64]], .sl Tk.imm [.int .i64, .int .i64] b9_4, .int .i64 b9_5, .int .i64 b9_6] => (match qb3 with
 | .row [.int .i64] b10 => (match qb4 with
 | Blk.tbl [.int .i64, .int .i64, .int .i64, .int .i64, .int .i64, .int .i64, .sl [.int .i64, .int .i64, .int .i64, .int .i64]] b11 none => (match qb5 with
 | Blk.dead => (match qb6 with
 | Blk.dead => (some ((t1, t2, b6_0, b6_1, b6_3, b6_4, b7_0, b7_1, b7_2, b9_0, b9_1, b9_5, b9_6), (t11, b6_2, b9_4, b10, b11)))
 | _ => none)
 | _ => none)
 | _ => none)
 | _ => none)
 | _ => none)
 | _ => none)
 | _ => none)
 | _ => none)
 | _ => none)
 | _ => none)
 | _ => none)
 | _ => none)
 | _ => none)
 | _ => none)
 | _ => none
theorem de3_8_ok (vt : List AV) (vc : List Blk) (a : pl3_8 × sl3_8) (h : de3_8 vt vc = some a) : vt = vt3_8 a ∧ vc = vc3_8 a := by
 unfold de3_8 at h
 iterate 15 (split at h; rotate_left; · cases h)
 injection h with h; subst h; exact ⟨rfl, rfl⟩
noncomputable def g3_8 (p : pl3_8) (s : sl3_8) : Bool := go3_8 p.1 p.2.1 s.1 p.2.2.1 p.2.2.2.1 s.2.1 p.2.2.2.2.1 p.2.2.2.2.2.1 p.2.2.2.2.2.2.1 p.2.2.2.2.2.2.2.1 p.2.2.2.2.2.2.2.2.1 p.2.2.2.2.2.2.2.2.2.1 p.2.2.2.2.2.2.2.2.2.2.1 s.2.2.1 p.2.2.2.2.2.2.2.2.2.2.2.1 p.2.2.2.2.2.2.2.2.2.2.2.2 s.2.2.2.1 s.2.2.2.2
noncomputable def n3_8 (p : pl3_8) (s : sl3_8) : sl3_8 := (nx3_8_2 p.1 p.2.1 s.1 p.2.2.1 p.2.2.2.1 s.2.1 p.2.2.2.2.1 p.2.2.2.2.2.1 p.2.2.2.2.2.2.1 p.2.2.2.2.2.2.2.1 p.2.2.2.2.2.2.2.2.1 p.2.2.2.2.2.2.2.2.2.1 p.2.2.2.2.2.2.2.2.2.2.1 s.2.2.1 p.2.2.2.2.2.2.2.2.2.2.2.1 p.2.2.2.2.2.2.2.2.2.2.2.2 s.2.2.2.1 s.2.2.2.2, nx3_8_5 p.1 p.2.1 s.1 p.2.2.1 p.2.2.2.1 s.2.1 p.2.2.2.2.1 p.2.2.2.2.2.1 p.2.2.2.2.2.2.1 p.2.2.2.2.2.2.2.1 p.2.2.2.2.2.2.2.2.1 p.2.2.2.2.2.2.2.2.2.1 p.2.2.2.2.2.2.2.2.2.2.1 s.2.2.1 p.2.2.2.2.2.2.2.2.2.2.2.1 p.2.2.2.2.2.2.2.2.2.2.2.2 s.2.2.2.1 s.2.2.2.2, nx3_8_13 p.1 p.2.1 s.1 p.2.2.1 p.2.2.2.1 s.2.1 p.2.2.2.2.1 p.2.2.2.2.2.1 p.2.2.2.2.2.2.1 p.2.2.2.2.2.2.2.1 p.2.2.2.2.2.2.2.2.1 p.2.2.2.2.2.2.2.2.2.1 p.2.2.2.2.2.2.2.2.2.2.1 s.2.2.1 p.2.2.2.2.2.2.2.2.2.2.2.1 p.2.2.2.2.2.2.2.2.2.2.2.2 s.2.2.2.1 s.2.2.2.2, nx3_8_16 p.1 p.2.1 s.1 p.2.2.1 p.2.2.2.1 s.2.1 p.2.2.2.2.1 p.2.2.2.2.2.1 p.2.2.2.2.2.2.1 p.2.2.2.2.2.2.2.1 p.2.2.2.2.2.2.2.2.1 p.2.2.2.2.2.2.2.2.2.1 p.2.2.2.2.2.2.2.2.2.2.1 s.2.2.1 p.2.2.2.2.2.2.2.2.2.2.2.1 p.2.2.2.2.2.2.2.2.2.2.2.2 s.2.2.2.1 s.2.2.2.2, nx3_8_17 p.1 p.2.1 s.1 p.2.2.1 p.2.2.2.1 s.2.1 p.2.2.2.2.1 p.2.2.2.2.2.1 p.2.2.2.2.2.2.1 p.2.2.2.2.2.2.2.1 p.2.2.2.2.2.2.2.2.1 p.2.2.2.2.2.2.2.2.2.1 p.2.2.2.2.2.2.2.2.2.2.1 s.2.2.1 p.2.2.2.2.2.2.2.2.2.2.2.1 p.2.2.2.2.2.2.2.2.2.2.2.2 s.2.2.2.1 s.2.2.2.2)
noncomputable def y3_8 (p : pl3_8) (s : sl3_8) : List (Bool × Out) := []
noncomputable def z3_8 (p : pl3_8) (s : sl3_8) : Bool := xc3_8_0 p.1 p.2.1 s.1 p.2.2.1 p.2.2.2.1 s.2.1 p.2.2.2.2.1 p.2.2.2.2.2.1 p.2.2.2.2.2.2.1 p.2.2.2.2.2.2.2.1 p.2.2.2.2.2.2.2.2.1 p.2.2.2.2.2.2.2.2.2.1 p.2.2.2.2.2.2.2.2.2.2.1 s.2.2.1 p.2.2.2.2.2.2.2.2.2.2.2.1 p.2.2.2.2.2.2.2.2.2.2.2.2 s.2.2.2.1 s.2.2.2.2
noncomputable def d3_8 (p : pl3_8) (s : sl3_8) : Out := (Ex.exit 0, [AV.sl Tk.imm kI1 p.2.1, AV.hp 7 0, AV.hp 9 0, AV.hp 6 0], [Blk.var [iA p.2.2.1, iA p.2.2.2.1, AV.sl Tk.imm kF s.2.1, iA p.2.2.2.2.1, iA p.2.2.2.2.2.1], Blk.var [AV.sl Tk.imm kI1 p.2.2.2.2.2.2.1, AV.sl Tk.imm kI1 p.2.2.2.2.2.2.2.1, iA p.2.2.2.2.2.2.2.2.1], bV p.2.2.2.2.2.2.2.2.2.1 p.2.2.2.2.2.2.2.2.2.2.1 10 11 s.2.2.1 p.2.2.2.2.2.2.2.2.2.2.2.1 p.2.2.2.2.2.2.2.2.2.2.2.2, Blk.row kI1 s.2.2.2.1, Blk.tbl kF s.2.2.2.2 none])
noncomputable def ls3_8 := lspOf [1, 2, 3, 7, 9, 11] [6, 7, 9, 10, 11, 12, 13] [2, 3, 7, 9] [6, 7, 9, 10, 11] Try.f3.ntmps (0 + tab.nid 3) de3_8 (spI g3_8 n3_8 y3_8 z3_8 d3_8)
theorem lo3_8 (rest : Lsp) : lO k18 (selL 8 ls3_8 rest) 3 0 Try.f3 8 := LoopOK1.iter (i := 8) (by kernel_rfl) [1, 2, 3, 7, 9, 11] [6, 7, 9, 10, 11, 12, 13] [2, 3, 7, 9] [6, 7, 9, 10, 11] vt3_8 vc3_8 de3_8 g3_8 n3_8 y3_8 z3_8 d3_8 (fun _ => rfl) de3_8_ok (fun p s => rd3_8 (selL 8 ls3_8 rest) (p.1) (p.2.1) (s.1) (p.2.2.1) (p.2.2.2.1) (s.2.1) (p.2.2.2.2.1) (p.2.2.2.2.2.1) (p.2.2.2.2.2.2.1) (p.2.2.2.2.2.2.2.1) (p.2.2.2.2.2.2.2.2.1) (p.2.2.2.2.2.2.2.2.2.1) (p.2.2.2.2.2.2.2.2.2.2.1) (s.2.2.1) (p.2.2.2.2.2.2.2.2.2.2.2.1) (p.2.2.2.2.2.2.2.2.2.2.2.2) (s.2.2.2.1) (s.2.2.2.2)) (fun _ _ => rfl)
noncomputable def rn3_18_0 (b c : LL) (d : Int) (e f : LL) (g : Int) (h i : LL) (j k l : Int) (m : LL) (o p : Int) (q r : LL) (s : Int) (a : LL) : Int := intOf ((b.getD d.toNat []).getD 0 AV.junk)
noncomputable def rn3_18_1 (b c : LL) (d : Int) (e f : LL) (g : Int) (h i : LL) (j k l : Int) (m : LL) (o p : Int) (q r : LL) (s : Int) (a : LL) : LL := [[iA (vev18_6 e f g k l o p m (rn3_18_0 b c d e f g h i j k l m o p q r s a)), iA (vev18_7 e f g k l o p m (rn3_18_0 b c d e f g h i j k l m o p q r s a)), iA (vev18_8 e f g k l o p m (rn3_18_0 b c d e f g h i j k l m o p q r s a)), iA (vev18_9 e f g k l o p m (rn3_18_0 b c d e f g h i j k l m o p q r s a))]]
noncomputable def go3_18 (b c : LL) (d : Int) (e f : LL) (g : Int) (h i : LL) (j k l : Int) (m : LL) (o p : Int) (q r : LL) (s : Int) (a : LL) : Bool := bif decide (d < (↑b.length : Int)) then bif decide (0 ≤ d) && decide (d < (↑b.length : Int)) then bif vev18_11 e f g k l o p m (rn3_18_0 b c d e f g h i j k l m o p q r s a) then bif vev18_10 e f g k l o p m (rn3_18_0 b c d e f g h i j k l m o p q r s a) then bif decide ((a.length + (rn3_18_1 b c d e f g h i j k l m o p q r s a).length) * 32 ≤ 140737488355328) then decide (a.length + (rn3_18_1 b c d e f g h i j k l m o p q r s a).length ≤ 9223372036854775807) else false else true else false else false else false
noncomputable def nx3_18_2 (b c : LL) (d : Int) (e f : LL) (g : Int) (h i : LL) (j k l : Int) (m : LL) (o p : Int) (q r : LL) (s : Int) (a : LL) : Int := IntKind.i64.wrap (d + 1)
noncomputable def nx3_18_3 (b c : LL) (d : Int) (e f : LL) (g : Int) (h i : LL) (j k l : Int) (m : LL) (o p : Int) (q r : LL) (s : Int) (a : LL) : LL := vev18_0 e f g k l o p m (rn3_18_0 b c d e f g h i j k l m o p q r s a)
noncomputable def nx3_18_4 (b c : LL) (d : Int) (e f : LL) (g : Int) (h i : LL) (j k l : Int) (m : LL) (o p : Int) (q r : LL) (s : Int) (a : LL) : LL := vev18_1 e f g k l o p m (rn3_18_0 b c d e f g h i j k l m o p q r s a)
noncomputable def nx3_18_5 (b c : LL) (d : Int) (e f : LL) (g : Int) (h i : LL) (j k l : Int) (m : LL) (o p : Int) (q r : LL) (s : Int) (a : LL) : Int := vev18_2 e f g k l o p m (rn3_18_0 b c d e f g h i j k l m o p q r s a)
noncomputable def nx3_18_11 (b c : LL) (d : Int) (e f : LL) (g : Int) (h i : LL) (j k l : Int) (m : LL) (o p : Int) (q r : LL) (s : Int) (a : LL) : LL := vev18_3 e f g k l o p m (rn3_18_0 b c d e f g h i j k l m o p q r s a)
noncomputable def nx3_18_12 (b c : LL) (d : Int) (e f : LL) (g : Int) (h i : LL) (j k l : Int) (m : LL) (o p : Int) (q r : LL) (s : Int) (a : LL) : Int := vev18_4 e f g k l o p m (rn3_18_0 b c d e f g h i j k l m o p q r s a)
noncomputable def nx3_18_13 (b c : LL) (d : Int) (e f : LL) (g : Int) (h i : LL) (j k l : Int) (m : LL) (o p : Int) (q r : LL) (s : Int) (a : LL) : Int := vev18_5 e f g k l o p m (rn3_18_0 b c d e f g h i j k l m o p q r s a)
noncomputable def nx3_18_17 (b c : LL) (d : Int) (e f : LL) (g : Int) (h i : LL) (j k l : Int) (m : LL) (o p : Int) (q r : LL) (s : Int) (a : LL) : LL := bif vev18_10 e f g k l o p m (rn3_18_0 b c d e f g h i j k l m o p q r s a) then a ++ rn3_18_1 b c d e f g h i j k l m o p q r s a else a
noncomputable def xc3_18_0 (b c : LL) (d : Int) (e f : LL) (g : Int) (h i : LL) (j k l : Int) (m : LL) (o p : Int) (q r : LL) (s : Int) (a : LL) : Bool := bif decide (d < (↑b.length : Int)) then false else true
theorem rd3_18 (rest : Lsp) (b c : LL) (d : Int) (e f : LL) (g : Int) (i j : LL) (k l m : Int) (o : LL) (p q : Int) (r s : LL) (t : Int) (a : LL) : rV k18 (selL 8 ls3_8 rest) 3 0 Try.f3 18 [2, 3, 9, 12, 13, 14, 15, 16] [0, 4, 5, 6, 7, 8] [3, 12, 13, 14, 15] [0, 4, 5, 7, 8] [AV.sl Tk.imm kI1 b, AV.hp 7 0, AV.hp 6 0, AV.hp 5 0, AV.sl Tk.imm kI4 c, AV.rf 8 kI4, AV.hp 4 0, iA d] [Blk.dead, Blk.var [AV.sl Tk.imm kI1 e, AV.sl Tk.imm kI1 f, iA g], Blk.var [AV.sl Tk.imm kI1 i, AV.sl Tk.imm kI1 j, iA k], Blk.var [iA l, iA m, AV.sl Tk.imm kF o, iA p, iA q], Blk.var [AV.sl Tk.imm kI1 r, AV.sl Tk.imm kI1 s, iA t], Blk.row kI4 a] = bif go3_18 b c d e f g i j k l m o p q r s t a then some (Ex.norm, [AV.sl Tk.imm kI1 b, AV.hp 7 0, AV.hp 6 0, AV.hp 5 0, AV.sl Tk.imm kI4 c, AV.rf 8 kI4, AV.hp 4 0, iA (nx3_18_2 b c d e f g i j k l m o p q r s t a)], [Blk.dead, Blk.var [AV.sl Tk.imm kI1 (nx3_18_3 b c d e f g i j k l m o p q r s t a), AV.sl Tk.imm kI1 (nx3_18_4 b c d e f g i j k l m o p q r s t a), iA (nx3_18_5 b c d e f g i j k l m o p q r s t a)], Blk.var [AV.sl Tk.imm kI1 i, AV.sl Tk.imm kI1 j, iA k], Blk.var [iA l, iA m, AV.sl Tk.imm kF (nx3_18_11 b c d e f g i j k l m o p q r s t a), iA (nx3_18_12 b c d e f g i j k l m o p q r s t a), iA (nx3_18_13 b c d e f g i j k l m o p q r s t a)], Blk.var [AV.sl Tk.imm kI1 r, AV.sl Tk.imm kI1 s, iA t], Blk.row kI4 (nx3_18_17 b c d e f g i j k l m o p q r s t a)]) else bif xc3_18_0 b c d e f g i j k l m o p q r s t a then some (Ex.exit 2, [AV.hp 7 0, AV.hp 5 0, AV.sl Tk.imm kI4 c, AV.rf 8 kI4, AV.hp 4 0], [Blk.dead, Blk.var [AV.sl Tk.imm kI1 e, AV.sl Tk.imm kI1 f, iA g], Blk.var [AV.sl Tk.imm kI1 i, AV.sl Tk.imm kI1 j, iA k], Blk.var [AV.sl Tk.imm kI1 r, AV.sl Tk.imm kI1 s, iA t], Blk.row kI4 a]) else none := by
 refine Eq.trans (b := bif decide (d < (↑b.length : Int)) then bif decide (0 ≤ d) && decide (d < (↑b.length : Int)) then bif vev18_11 e f g l m p q o (rn3_18_0 b c d e f g i j k l m o p q r s t a) then bif vev18_10 e f g l m p q o (rn3_18_0 b c d e f g i j k l m o p q r s t a) then bif bif decide ((a.length + (rn3_18_1 b c d e f g i j k l m o p q r s t a).length) * 32 ≤ 140737488355328) then decide (a.length + (rn3_18_1 b c d e f g i j k l m o p q r s t a).length ≤ 9223372036854775807) else false then some (Ex.norm, [AV.sl Tk.imm kI1 b, AV.hp 7 0, AV.hp 6 0, AV.hp 5 0, AV.sl Tk.imm kI4 c, AV.rf 8 kI4, AV.hp 4 0, iA (IntKind.i64.wrap (d + 1))], [Blk.dead, Blk.var [AV.sl Tk.imm kI1 (vev18_0 e f g l m p q o (rn3_18_0 b c d e f g i j k l m o p q r s t a)), AV.sl Tk.imm kI1 (vev18_1 e f g l m p q o (rn3_18_0 b c d e f g i j k l m o p q r s t a)), iA (vev18_2 e f g l m p q o (rn3_18_0 b c d e f g i j k l m o p q r s t a))], Blk.var [AV.sl Tk.imm kI1 i, AV.sl Tk.imm kI1 j, iA k], Blk.var [iA l, iA m, AV.sl Tk.imm kF (vev18_3 e f g l m p q o (rn3_18_0 b c d e f g i j k l m o p q r s t a)), iA (vev18_4 e f g l m p q o (rn3_18_0 b c d e f g i j k l m o p q r s t a)), iA (vev18_5 e f g l m p q o (rn3_18_0 b c d e f g i j k l m o p q r s t a))], Blk.var [AV.sl Tk.imm kI1 r, AV.sl Tk.imm kI1 s, iA t], Blk.row kI4 (a ++ rn3_18_1 b c d e f g i j k l m o p q r s t a)]) else none else some (Ex.norm, [AV.sl Tk.imm kI1 b, AV.hp 7 0, AV.hp 6 0, AV.hp 5 0, AV.sl Tk.imm kI4 c, AV.rf 8 kI4, AV.hp 4 0, iA (IntKind.i64.wrap (d + 1))], [Blk.dead, Blk.var [AV.sl Tk.imm kI1 (vev18_0 e f g l m p q o (rn3_18_0 b c d e f g i j k l m o p q r s t a)), AV.sl Tk.imm kI1 (vev18_1 e f g l m p q o (rn3_18_0 b c d e f g i j k l m o p q r s t a)), iA (vev18_2 e f g l m p q o (rn3_18_0 b c d e f g i j k l m o p q r s t a))], Blk.var [AV.sl Tk.imm kI1 i, AV.sl Tk.imm kI1 j, iA k], Blk.var [iA l, iA m, AV.sl Tk.imm kF (vev18_3 e f g l m p q o (rn3_18_0 b c d e f g i j k l m o p q r s t a)), iA (vev18_4 e f g l m p q o (rn3_18_0 b c d e f g i j k l m o p q r s t a)), iA (vev18_5 e f g l m p q o (rn3_18_0 b c d e f g i j k l m o p q r s t a))], Blk.var [AV.sl Tk.imm kI1 r, AV.sl Tk.imm kI1 s, iA t], Blk.row kI4 a]) else none else none else some (Ex.exit 2, [AV.hp 7 0, AV.hp 5 0, AV.sl Tk.imm kI4 c, AV.rf 8 kI4, AV.hp 4 0], [Blk.dead, Blk.var [AV.sl Tk.imm kI1 e, AV.sl Tk.imm kI1 f, iA g], Blk.var [AV.sl Tk.imm kI1 i, AV.sl Tk.imm kI1 j, iA k], Blk.var [AV.sl Tk.imm kI1 r, AV.sl Tk.imm kI1 s, iA t], Blk.row kI4 a])) (by kernel_rfl) ?_
 unfold go3_18 nx3_18_2 nx3_18_3 nx3_18_4 nx3_18_5 nx3_18_11 nx3_18_12 nx3_18_13 nx3_18_17 xc3_18_0
 generalize (decide ((a.length + (rn3_18_1 b c d e f g i j k l m o p q r s t a).length) * 32 ≤ 140737488355328)) = c0
 generalize (decide (a.length + (rn3_18_1 b c d e f g i j k l m o p q r s t a).length ≤ 9223372036854775807)) = c1
 generalize (decide (0 ≤ d) && decide (d < (↑b.length : Int))) = c2
 generalize (vev18_11 _ _ _ _ _ _ _ _ _) = c3
 generalize (vev18_10 _ _ _ _ _ _ _ _ _) = c4
 generalize (decide (d < (↑b.length : Int))) = c5
 cases c5; rfl; cases c2; rfl; cases c3; rfl; cases c4; rfl; cases c0; rfl; cases c1; rfl; rfl
abbrev pl3_18 : Type := LL × LL × LL × LL × Int × Int × Int × LL × LL × Int
abbrev sl3_18 : Type := Int × LL × LL × Int × LL × Int × Int × LL
noncomputable def vt3_18 (a : pl3_18 × sl3_18) : List AV := [AV.sl Tk.imm kI1 a.1.1, AV.hp 7 0, AV.hp 6 0, AV.hp 5 0, AV.sl Tk.imm kI4 a.1.2.1, AV.rf 8 kI4, AV.hp 4 0, iA a.2.1]
noncomputable def vc3_18 (a : pl3_18 × sl3_18) : List Blk := [Blk.dead, Blk.var [AV.sl Tk.imm kI1 a.2.2.1, AV.sl Tk.imm kI1 a.2.2.2.1, iA a.2.2.2.2.1], Blk.var [AV.sl Tk.imm kI1 a.1.2.2.1, AV.sl Tk.imm kI1 a.1.2.2.2.1, iA a.1.2.2.2.2.1], Blk.var [iA a.1.2.2.2.2.2.1, iA a.1.2.2.2.2.2.2.1, AV.sl Tk.imm kF a.2.2.2.2.2.1, iA a.2.2.2.2.2.2.1, iA a.2.2.2.2.2.2.2.1], Blk.var [AV.sl Tk.imm kI1 a.1.2.2.2.2.2.2.2.1, AV.sl Tk.imm kI1 a.1.2.2.2.2.2.2.2.2.1, iA a.1.2.2.2.2.2.2.2.2.2], Blk.row kI4 a.2.2.2.2.2.2.2.2]
noncomputable def de3_18 (vt : List AV) (vc : List Blk) : Option (pl3_18 × sl3_18) :=
 match vt with
 | [qa0, qa1, qa2, qa3, qa4, qa5, qa6, qa7] => (match vc with
 | [qb0, qb1, qb2, qb3, qb4, qb5] => (match qa0 with
 | .sl Tk.imm [.int .i64] t2 => (match qa1 with
 | AV.hp (7) (0) => (match qa2 with
 | AV.hp (6) (0) => (match qa3 with
 | AV.hp (5) (0) => (match qa4 with
 | .sl Tk.imm [.int .i64, .int .i64, .int .i64, .int .i64] t13 => (match qa5 with
 | AV.rf (8) [.int .i64, .int .i64, .int .i64, .int .i64] => (match qa6 with
 | AV.hp (4) (0) => (match qa7 with
 | .int .i64 t16 => (match qb0 with
 | Blk.dead => (match qb1 with
 | .var [.sl Tk.imm [.int .i64] b4_0, .sl Tk.imm [.int .i64] b4_1, .int .i64 b4_2] => (match qb2 with
 | .var [.sl Tk.imm [.int .i64] b5_0, .sl Tk.imm [.int .i64] b5_1, .int .i64 b5_2] => (match qb3 with
 | .var [.int .i64 b6_0, .int .i64 b6_1, .sl Tk.imm [.int .i64, .int .i64, .int .i64, .int .i64, .int .i64, .int .i64, .sl [.int .i64, .int .i64, .int .i64, .int .i64]] b6_2, .int .i64 b6_3, .int .i64 b6_4] => (match qb4 with
 | .var [.sl Tk.imm [.int .i64] b7_0, .sl Tk.imm [.int .i64] b7_1, .int .i64 b7_2] => (match qb5 with
 | .row [.int .i64, .int .i64, .int .i64, .int .i64] b8 => (some ((t2, t13, b5_0, b5_1, b5_2, b6_0, b6_1, b7_0, b7_1, b7_2), (t16, b4_0, b4_1, b4_2, b6_2, b6_3, b6_4, b8)))
 | _ => none)
 | _ => none)
 | _ => none)
 | _ => none)
 | _ => none)
 | _ => none)
 | _ => none)
 | _ => none)
 | _ => none)
 | _ => none)
 | _ => none)
 | _ => none)
 | _ => none)
 | _ => none)
 | _ => none)
 | _ => none
theorem de3_18_ok (vt : List AV) (vc : List Blk) (a : pl3_18 × sl3_18) (h : de3_18 vt vc = some a) : vt = vt3_18 a ∧ vc = vc3_18 a := by
 unfold de3_18 at h
 iterate 16 (split at h; rotate_left; · cases h)
 injection h with h; subst h; exact ⟨rfl, rfl⟩
noncomputable def g3_18 (p : pl3_18) (s : sl3_18) : Bool := go3_18 p.1 p.2.1 s.1 s.2.1 s.2.2.1 s.2.2.2.1 p.2.2.1 p.2.2.2.1 p.2.2.2.2.1 p.2.2.2.2.2.1 p.2.2.2.2.2.2.1 s.2.2.2.2.1 s.2.2.2.2.2.1 s.2.2.2.2.2.2.1 p.2.2.2.2.2.2.2.1 p.2.2.2.2.2.2.2.2.1 p.2.2.2.2.2.2.2.2.2 s.2.2.2.2.2.2.2
noncomputable def n3_18 (p : pl3_18) (s : sl3_18) : sl3_18 := (nx3_18_2 p.1 p.2.1 s.1 s.2.1 s.2.2.1 s.2.2.2.1 p.2.2.1 p.2.2.2.1 p.2.2.2.2.1 p.2.2.2.2.2.1 p.2.2.2.2.2.2.1 s.2.2.2.2.1 s.2.2.2.2.2.1 s.2.2.2.2.2.2.1 p.2.2.2.2.2.2.2.1 p.2.2.2.2.2.2.2.2.1 p.2.2.2.2.2.2.2.2.2 s.2.2.2.2.2.2.2, nx3_18_3 p.1 p.2.1 s.1 s.2.1 s.2.2.1 s.2.2.2.1 p.2.2.1 p.2.2.2.1 p.2.2.2.2.1 p.2.2.2.2.2.1 p.2.2.2.2.2.2.1 s.2.2.2.2.1 s.2.2.2.2.2.1 s.2.2.2.2.2.2.1 p.2.2.2.2.2.2.2.1 p.2.2.2.2.2.2.2.2.1 p.2.2.2.2.2.2.2.2.2 s.2.2.2.2.2.2.2, nx3_18_4 p.1 p.2.1 s.1 s.2.1 s.2.2.1 s.2.2.2.1 p.2.2.1 p.2.2.2.1 p.2.2.2.2.1 p.2.2.2.2.2.1 p.2.2.2.2.2.2.1 s.2.2.2.2.1 s.2.2.2.2.2.1 s.2.2.2.2.2.2.1 p.2.2.2.2.2.2.2.1 p.2.2.2.2.2.2.2.2.1 p.2.2.2.2.2.2.2.2.2 s.2.2.2.2.2.2.2, nx3_18_5 p.1 p.2.1 s.1 s.2.1 s.2.2.1 s.2.2.2.1 p.2.2.1 p.2.2.2.1 p.2.2.2.2.1 p.2.2.2.2.2.1 p.2.2.2.2.2.2.1 s.2.2.2.2.1 s.2.2.2.2.2.1 s.2.2.2.2.2.2.1 p.2.2.2.2.2.2.2.1 p.2.2.2.2.2.2.2.2.1 p.2.2.2.2.2.2.2.2.2 s.2.2.2.2.2.2.2, nx3_18_11 p.1 p.2.1 s.1 s.2.1 s.2.2.1 s.2.2.2.1 p.2.2.1 p.2.2.2.1 p.2.2.2.2.1 p.2.2.2.2.2.1 p.2.2.2.2.2.2.1 s.2.2.2.2.1 s.2.2.2.2.2.1 s.2.2.2.2.2.2.1 p.2.2.2.2.2.2.2.1 p.2.2.2.2.2.2.2.2.1 p.2.2.2.2.2.2.2.2.2 s.2.2.2.2.2.2.2, nx3_18_12 p.1 p.2.1 s.1 s.2.1 s.2.2.1 s.2.2.2.1 p.2.2.1 p.2.2.2.1 p.2.2.2.2.1 p.2.2.2.2.2.1 p.2.2.2.2.2.2.1 s.2.2.2.2.1 s.2.2.2.2.2.1 s.2.2.2.2.2.2.1 p.2.2.2.2.2.2.2.1 p.2.2.2.2.2.2.2.2.1 p.2.2.2.2.2.2.2.2.2 s.2.2.2.2.2.2.2, nx3_18_13 p.1 p.2.1 s.1 s.2.1 s.2.2.1 s.2.2.2.1 p.2.2.1 p.2.2.2.1 p.2.2.2.2.1 p.2.2.2.2.2.1 p.2.2.2.2.2.2.1 s.2.2.2.2.1 s.2.2.2.2.2.1 s.2.2.2.2.2.2.1 p.2.2.2.2.2.2.2.1 p.2.2.2.2.2.2.2.2.1 p.2.2.2.2.2.2.2.2.2 s.2.2.2.2.2.2.2, nx3_18_17 p.1 p.2.1 s.1 s.2.1 s.2.2.1 s.2.2.2.1 p.2.2.1 p.2.2.2.1 p.2.2.2.2.1 p.2.2.2.2.2.1 p.2.2.2.2.2.2.1 s.2.2.2.2.1 s.2.2.2.2.2.1 s.2.2.2.2.2.2.1 p.2.2.2.2.2.2.2.1 p.2.2.2.2.2.2.2.2.1 p.2.2.2.2.2.2.2.2.2 s.2.2.2.2.2.2.2)
noncomputable def y3_18 (p : pl3_18) (s : sl3_18) : List (Bool × Out) := []
noncomputable def z3_18 (p : pl3_18) (s : sl3_18) : Bool := xc3_18_0 p.1 p.2.1 s.1 s.2.1 s.2.2.1 s.2.2.2.1 p.2.2.1 p.2.2.2.1 p.2.2.2.2.1 p.2.2.2.2.2.1 p.2.2.2.2.2.2.1 s.2.2.2.2.1 s.2.2.2.2.2.1 s.2.2.2.2.2.2.1 p.2.2.2.2.2.2.2.1 p.2.2.2.2.2.2.2.2.1 p.2.2.2.2.2.2.2.2.2 s.2.2.2.2.2.2.2
noncomputable def d3_18 (p : pl3_18) (s : sl3_18) : Out := (Ex.exit 2, [AV.hp 7 0, AV.hp 5 0, AV.sl Tk.imm kI4 p.2.1, AV.rf 8 kI4, AV.hp 4 0], [Blk.dead, Blk.var [AV.sl Tk.imm kI1 s.2.1, AV.sl Tk.imm kI1 s.2.2.1, iA s.2.2.2.1], Blk.var [AV.sl Tk.imm kI1 p.2.2.1, AV.sl Tk.imm kI1 p.2.2.2.1, iA p.2.2.2.2.1], Blk.var [AV.sl Tk.imm kI1 p.2.2.2.2.2.2.2.1, AV.sl Tk.imm kI1 p.2.2.2.2.2.2.2.2.1, iA p.2.2.2.2.2.2.2.2.2], Blk.row kI4 s.2.2.2.2.2.2.2])
noncomputable def ls3_18 := lspOf [2, 3, 9, 12, 13, 14, 15, 16] [0, 4, 5, 6, 7, 8] [3, 12, 13, 14, 15] [0, 4, 5, 7, 8] Try.f3.ntmps (0 + tab.nid 3) de3_18 (spI g3_18 n3_18 y3_18 z3_18 d3_18)
theorem lo3_18 (rest : Lsp) : lO k18 (selL 8 ls3_8 (selL 18 ls3_18 rest)) 3 0 Try.f3 18 := LoopOK1.iter (i := 18) (by kernel_rfl) [2, 3, 9, 12, 13, 14, 15, 16] [0, 4, 5, 6, 7, 8] [3, 12, 13, 14, 15] [0, 4, 5, 7, 8] vt3_18 vc3_18 de3_18 g3_18 n3_18 y3_18 z3_18 d3_18 (fun _ => rfl) de3_18_ok (fun p s => rd3_18 (selL 18 ls3_18 rest) (p.1) (p.2.1) (s.1) (s.2.1) (s.2.2.1) (s.2.2.2.1) (p.2.2.1) (p.2.2.2.1) (p.2.2.2.2.1) (p.2.2.2.2.2.1) (p.2.2.2.2.2.2.1) (s.2.2.2.2.1) (s.2.2.2.2.2.1) (s.2.2.2.2.2.2.1) (p.2.2.2.2.2.2.2.1) (p.2.2.2.2.2.2.2.2.1) (p.2.2.2.2.2.2.2.2.2) (s.2.2.2.2.2.2.2)) (fun _ _ => rfl)
noncomputable def go3_27 (b : LL) (c : Int) (a : LL) : Bool := bif decide (c < (↑b.length : Int)) then bif decide (0 ≤ c) && decide (c < (↑b.length : Int)) then bif decide (0 ≤ c) && decide (c < (↑a.length : Int)) then bif !(intOf ((b.getD c.toNat []).getD 0 AV.junk) == intOf ((a.getD c.toNat []).getD 0 AV.junk) && (intOf ((b.getD c.toNat []).getD (0 + 1) AV.junk) == intOf ((a.getD c.toNat []).getD (0 + 1) AV.junk) && (intOf ((b.getD c.toNat []).getD (0 + 1 + 1) AV.junk) == intOf ((a.getD c.toNat []).getD (0 + 1 + 1) AV.junk) && (intOf ((b.getD c.toNat []).getD (0 + 1 + 1 + 1) AV.junk) == intOf ((a.getD c.toNat []).getD (0 + 1 + 1 + 1) AV.junk) && true)))) then false else true else false else false else false
noncomputable def nx3_27_1 (b : LL) (c : Int) (a : LL) : Int := IntKind.i64.wrap (c + 1)
noncomputable def xc3_27_0 (b : LL) (c : Int) (a : LL) : Bool := bif decide (c < (↑b.length : Int)) then bif decide (0 ≤ c) && decide (c < (↑b.length : Int)) then bif decide (0 ≤ c) && decide (c < (↑a.length : Int)) then !(intOf ((b.getD c.toNat []).getD 0 AV.junk) == intOf ((a.getD c.toNat []).getD 0 AV.junk) && (intOf ((b.getD c.toNat []).getD (0 + 1) AV.junk) == intOf ((a.getD c.toNat []).getD (0 + 1) AV.junk) && (intOf ((b.getD c.toNat []).getD (0 + 1 + 1) AV.junk) == intOf ((a.getD c.toNat []).getD (0 + 1 + 1) AV.junk) && (intOf ((b.getD c.toNat []).getD (0 + 1 + 1 + 1) AV.junk) == intOf ((a.getD c.toNat []).getD (0 + 1 + 1 + 1) AV.junk) && true)))) else false else false else false
noncomputable def xc3_27_1 (b : LL) (c : Int) (a : LL) : Bool := bif decide (c < (↑b.length : Int)) then false else true
theorem rd3_27 (rest : Lsp) (b : LL) (c : Int) (a : LL) : roundV (cfg Try.prog tab 100000 (gk k18 30) (selL 8 ls3_8 (selL 18 ls3_18 rest)) 3 0 Try.f3.ntmps) (loopAt Try.f3 27) [13, 14, 21] [0, 8] [6] [] [AV.sl Tk.imm kI4 b, AV.rf 8 kI4, iA c] [Blk.dead, Blk.row kI4 a] = bif go3_27 b c a then some (Ex.norm, [AV.sl Tk.imm kI4 b, AV.rf 8 kI4, iA (nx3_27_1 b c a)], [Blk.dead, Blk.row kI4 a]) else bif xc3_27_0 b c a then some (Ex.ret, [AV.bool false], []) else bif xc3_27_1 b c a then some (Ex.exit 4, [AV.junk], []) else none := by
 refine Eq.trans (b := bif decide (c < (↑b.length : Int)) then bif decide (0 ≤ c) && decide (c < (↑b.length : Int)) then bif decide (0 ≤ c) && decide (c < (↑a.length : Int)) then bif !(intOf ((b.getD c.toNat []).getD 0 AV.junk) == intOf ((a.getD c.toNat []).getD 0 AV.junk) && (intOf ((b.getD c.toNat []).getD (0 + 1) AV.junk) == intOf ((a.getD c.toNat []).getD (0 + 1) AV.junk) && (intOf ((b.getD c.toNat []).getD (0 + 1 + 1) AV.junk) == intOf ((a.getD c.toNat []).getD (0 + 1 + 1) AV.junk) && (intOf ((b.getD c.toNat []).getD (0 + 1 + 1 + 1) AV.junk) == intOf ((a.getD c.toNat []).getD (0 + 1 + 1 + 1) AV.junk) && true)))) then some (Ex.ret, [AV.bool false], []) else some (Ex.norm, [AV.sl Tk.imm kI4 b, AV.rf 8 kI4, iA (IntKind.i64.wrap (c + 1))], [Blk.dead, Blk.row kI4 a]) else none else none else some (Ex.exit 4, [AV.junk], [])) (by kernel_rfl) ?_
 unfold go3_27 nx3_27_1 xc3_27_0 xc3_27_1
 generalize (!(intOf ((b.getD c.toNat []).getD 0 AV.junk) == intOf ((a.getD c.toNat []).getD 0 AV.junk) && (intOf ((b.getD c.toNat []).getD (0 + 1) AV.junk) == intOf ((a.getD c.toNat []).getD (0 + 1) AV.junk) && (intOf ((b.getD c.toNat []).getD (0 + 1 + 1) AV.junk) == intOf ((a.getD c.toNat []).getD (0 + 1 + 1) AV.junk) && (intOf ((b.getD c.toNat []).getD (0 + 1 + 1 + 1) AV.junk) == intOf ((a.getD c.toNat []).getD (0 + 1 + 1 + 1) AV.junk) && true))))) = c0
 generalize (decide (0 ≤ c) && decide (c < (↑b.length : Int))) = c1
 generalize (decide (0 ≤ c) && decide (c < (↑a.length : Int))) = c2
 generalize (decide (c < (↑b.length : Int))) = c3
 cases c3; rfl; cases c1; rfl; cases c2; rfl; cases c0; rfl; rfl
abbrev pl3_27 : Type := LL × LL
abbrev sl3_27 : Type := Int
noncomputable def vt3_27 (a : pl3_27 × sl3_27) : List AV := [AV.sl Tk.imm kI4 a.1.1, AV.rf 8 kI4, iA a.2]
noncomputable def vc3_27 (a : pl3_27 × sl3_27) : List Blk := [Blk.dead, Blk.row kI4 a.1.2]
noncomputable def de3_27 (vt : List AV) (vc : List Blk) : Option (pl3_27 × sl3_27) :=
 match vt with
 | [qa0, qa1, qa2] => (match vc with
 | [qb0, qb1] => (match qa0 with
 | .sl Tk.imm [.int .i64, .int .i64, .int .i64, .int .i64] t13 => (match qa1 with
 | AV.rf (8) [.int .i64, .int .i64, .int .i64, .int .i64] => (match qa2 with
 | .int .i64 t21 => (match qb0 with
 | Blk.dead => (match qb1 with
 | .row [.int .i64, .int .i64, .int .i64, .int .i64] b8 => (some ((t13, b8), t21))
 | _ => none)
 | _ => none)
 | _ => none)
 | _ => none)
 | _ => none)
 | _ => none)
 | _ => none
theorem de3_27_ok (vt : List AV) (vc : List Blk) (a : pl3_27 × sl3_27) (h : de3_27 vt vc = some a) : vt = vt3_27 a ∧ vc = vc3_27 a := by
 unfold de3_27 at h
 iterate 7 (split at h; rotate_left; · cases h)
 injection h with h; subst h; exact ⟨rfl, rfl⟩
noncomputable def g3_27 (p : pl3_27) (s : sl3_27) : Bool := go3_27 p.1 s p.2
noncomputable def n3_27 (p : pl3_27) (s : sl3_27) : sl3_27 := nx3_27_1 p.1 s p.2
noncomputable def y3_27 (p : pl3_27) (s : sl3_27) : List (Bool × Out) := [(xc3_27_0 p.1 s p.2, (Ex.ret, [AV.bool false], []))]
noncomputable def z3_27 (p : pl3_27) (s : sl3_27) : Bool := xc3_27_1 p.1 s p.2
noncomputable def d3_27 (p : pl3_27) (s : sl3_27) : Out := (Ex.exit 4, [AV.junk], [])
noncomputable def ls3_27 := lspOf [13, 14, 21] [0, 8] [6] [] Try.f3.ntmps (0 + tab.nid 3) de3_27 (spI g3_27 n3_27 y3_27 z3_27 d3_27)
theorem lo3_27 (rest : Lsp) : lO k18 (selL 8 ls3_8 (selL 18 ls3_18 (selL 27 ls3_27 rest))) 3 0 Try.f3 27 := LoopOK1.iter (i := 27) (by kernel_rfl) [13, 14, 21] [0, 8] [6] [] vt3_27 vc3_27 de3_27 g3_27 n3_27 y3_27 z3_27 d3_27 (fun _ => rfl) de3_27_ok (fun p s => rd3_27 (selL 27 ls3_27 rest) (p.1) s (p.2)) (fun _ _ => rfl)
noncomputable def lsp3 : Lsp := (selL 8 ls3_8 (selL 18 ls3_18 (selL 27 ls3_27 noLsp)))
theorem loops3 : ∀ c, Try.f3.body = some c → lsO k18 lsp3 3 0 Try.f3 c := loops_of [8, 18, 27] (by kernel_rfl) (by kernel_rfl) (fun i hi => by
 simp only [List.mem_cons, List.not_mem_nil, or_false] at hi
 rcases hi with rfl | rfl | rfl
 ·exact lo3_8 (selL 18 ls3_18 (selL 27 ls3_27 noLsp))
 ·exact lo3_18 (selL 27 ls3_27 noLsp)
 ·exact lo3_27 noLsp)
noncomputable def rev3_0 (us ss : LL) (d : Int) (costs l : LL) : sl3_8 := finL (g3_8 (costs, l, 5, 3, 0, 0, us, ss, d, 5, 3, 0, 0)) (n3_8 (costs, l, 5, 3, 0, 0, us, ss, d, 5, 3, 0, 0)) (0, [], [], [], [])
noncomputable def rev3_1 (us ss : LL) (d : Int) (costs l : LL) : LL := (rev3_0 us ss d costs l).snd.snd.snd.fst
noncomputable def rev3_2 (us ss : LL) (d : Int) (costs l : LL) : LL := (rev3_0 us ss d costs l).snd.snd.fst
noncomputable def rev3_3 (us ss : LL) (d : Int) (costs l : LL) : LL := (rev3_0 us ss d costs l).snd.snd.snd.snd
noncomputable def rev3_4 (us ss : LL) (d : Int) (costs l : LL) : LL := vev17_3 5 3 (rev3_1 us ss d costs l) l us ss d (rev3_2 us ss d costs l) 0 0 (rev3_3 us ss d costs l)
noncomputable def rev3_5 (us ss : LL) (d : Int) (costs l : LL) : LL := vev17_0 5 3 (rev3_1 us ss d costs l) l us ss d (rev3_2 us ss d costs l) 0 0 (rev3_3 us ss d costs l)
noncomputable def rev3_6 (us ss : LL) (d : Int) (costs l : LL) : LL := vev17_1 5 3 (rev3_1 us ss d costs l) l us ss d (rev3_2 us ss d costs l) 0 0 (rev3_3 us ss d costs l)
noncomputable def rev3_7 (us ss : LL) (d : Int) (costs l : LL) : Int := vev17_2 5 3 (rev3_1 us ss d costs l) l us ss d (rev3_2 us ss d costs l) 0 0 (rev3_3 us ss d costs l)
noncomputable def rev3_8 (us ss : LL) (d : Int) (costs l : LL) : sl3_18 := finL (g3_18 (l, rev3_4 us ss d costs l, rev3_5 us ss d costs l, rev3_6 us ss d costs l, rev3_7 us ss d costs l, 5, 3, us, ss, d)) (n3_18 (l, rev3_4 us ss d costs l, rev3_5 us ss d costs l, rev3_6 us ss d costs l, rev3_7 us ss d costs l, 5, 3, us, ss, d)) (0, us, ss, d, (rev3_0 us ss d costs l).snd.fst, 0, 0, [])
noncomputable def rev3_9 (us ss : LL) (d : Int) (costs l : LL) : LL := (rev3_8 us ss d costs l).snd.snd.snd.snd.snd.snd.snd
noncomputable def rev3_10 (us ss : LL) (d : Int) (costs l : LL) : LL := (rev3_8 us ss d costs l).snd.fst
noncomputable def rev3_11 (us ss : LL) (d : Int) (costs l : LL) : LL := (rev3_8 us ss d costs l).snd.snd.fst
noncomputable def rev3_12 (us ss : LL) (d : Int) (costs l : LL) : Int := (rev3_8 us ss d costs l).snd.snd.snd.fst
noncomputable def rev3_13 (us ss : LL) (d : Int) (costs l : LL) : sl3_27 := finL (g3_27 (rev3_4 us ss d costs l, rev3_9 us ss d costs l)) (n3_27 (rev3_4 us ss d costs l, rev3_9 us ss d costs l)) 0
noncomputable def vev3_0 (us ss : LL) (d : Int) (costs l : LL) : Bool := bif bif decide ((↑us.length : Int) > 20) then true else bif decide ((↑ss.length : Int) > 20) then true else bif decide ((↑costs.length : Int) > 12) then true else decide ((↑l.length : Int) > 40) then true else bif bif (↑(rev3_4 us ss d costs l).length : Int) != (↑(rev3_9 us ss d costs l).length : Int) then true else bif vev19_1 (rev3_5 us ss d costs l) (rev3_6 us ss d costs l) (rev3_7 us ss d costs l) (rev3_10 us ss d costs l) (rev3_11 us ss d costs l) (rev3_12 us ss d costs l) then bif !vev19_0 (rev3_5 us ss d costs l) (rev3_6 us ss d costs l) (rev3_7 us ss d costs l) (rev3_10 us ss d costs l) (rev3_11 us ss d costs l) (rev3_12 us ss d costs l) then true else bif vev20_1 us ss d then bif vev21_1 us ss d then bif vev20_0 us ss d != vev21_0 us ss d then true else bif vev22_1 us ss d then bif vev23_1 us ss d then vev22_0 us ss d != vev23_0 us ss d else false else false else false else false else false then false else bif xc3_27_0 (rev3_4 us ss d costs l) (rev3_13 us ss d costs l) (rev3_9 us ss d costs l) then false else true
noncomputable def vev3_1 (us ss : LL) (d : Int) (costs l : LL) : Bool := bif bif decide ((↑us.length : Int) > 20) then true else bif decide ((↑ss.length : Int) > 20) then true else bif decide ((↑costs.length : Int) > 12) then true else decide ((↑l.length : Int) > 40) then true else bif (spI g3_8 n3_8 y3_8 z3_8 d3_8 ((costs, l, 5, 3, 0, 0, us, ss, d, 5, 3, 0, 0), 0, [], [], [], [])).fst then bif vev17_8 5 3 (rev3_1 us ss d costs l) l us ss d (rev3_2 us ss d costs l) 0 0 (rev3_3 us ss d costs l) then bif (spI g3_18 n3_18 y3_18 z3_18 d3_18 ((l, rev3_4 us ss d costs l, rev3_5 us ss d costs l, rev3_6 us ss d costs l, rev3_7 us ss d costs l, 5, 3, us, ss, d), 0, us, ss, d, (rev3_0 us ss d costs l).snd.fst, 0, 0, [])).fst then bif bif (↑(rev3_4 us ss d costs l).length : Int) != (↑(rev3_9 us ss d costs l).length : Int) then true else bif vev19_1 (rev3_5 us ss d costs l) (rev3_6 us ss d costs l) (rev3_7 us ss d costs l) (rev3_10 us ss d costs l) (rev3_11 us ss d costs l) (rev3_12 us ss d costs l) then bif !vev19_0 (rev3_5 us ss d costs l) (rev3_6 us ss d costs l) (rev3_7 us ss d costs l) (rev3_10 us ss d costs l) (rev3_11 us ss d costs l) (rev3_12 us ss d costs l) then true else bif vev20_1 us ss d then bif vev21_1 us ss d then bif vev20_0 us ss d != vev21_0 us ss d then true else bif vev22_1 us ss d then vev23_1 us ss d else false else false else false else false then bif bif (↑(rev3_4 us ss d costs l).length : Int) != (↑(rev3_9 us ss d costs l).length : Int) then true else bif vev19_1 (rev3_5 us ss d costs l) (rev3_6 us ss d costs l) (rev3_7 us ss d costs l) (rev3_10 us ss d costs l) (rev3_11 us ss d costs l) (rev3_12 us ss d costs l) then bif !vev19_0 (rev3_5 us ss d costs l) (rev3_6 us ss d costs l) (rev3_7 us ss d costs l) (rev3_10 us ss d costs l) (rev3_11 us ss d costs l) (rev3_12 us ss d costs l) then true else bif vev20_1 us ss d then bif vev21_1 us ss d then bif vev20_0 us ss d != vev21_0 us ss d then true else bif vev22_1 us ss d then bif vev23_1 us ss d then vev22_0 us ss d != vev23_0 us ss d else false else false else false else false else false then true else bif (spI g3_27 n3_27 y3_27 z3_27 d3_27 ((rev3_4 us ss d costs l, rev3_9 us ss d costs l), 0)).fst then true else false else false else false else false else false
theorem ev3 (us ss : LL) (d : Int) (costs l : LL) : evFun (cfg Try.prog tab 100000 (gk k18 30) lsp3 3 ([] : List Blk).length Try.f3.ntmps) Try.f3 [.agg [.sl .imm kI1 us, .sl .imm kI1 ss, iA d], .sl .imm [.int .u8] costs, .sl .imm kI1 l] [] = bif vev3_1 us ss d costs l then some (AV.bool (vev3_0 us ss d costs l), []) else none := by
 refine Eq.trans (b := bif bif decide ((↑us.length : Int) > 20) then true else bif bif false then true else decide ((↑ss.length : Int) > 20) then true else bif bif false then true else decide ((↑costs.length : Int) > 12) then true else true then bif bif decide ((↑us.length : Int) > 20) then true else bif bif false then true else decide ((↑ss.length : Int) > 20) then true else bif bif false then true else decide ((↑costs.length : Int) > 12) then true else bif false then true else decide ((↑l.length : Int) > 40) then some (AV.bool true, []) else bif (spI g3_8 n3_8 y3_8 z3_8 d3_8 ((costs, l, 5, 3, 0, 0, us, ss, d, 5, 3, 0, 0), 0, [], [], [], [])).fst then bif vev17_8 5 3 (rev3_1 us ss d costs l) l us ss d (rev3_2 us ss d costs l) 0 0 (rev3_3 us ss d costs l) then bif (spI g3_18 n3_18 y3_18 z3_18 d3_18 ((l, rev3_4 us ss d costs l, rev3_5 us ss d costs l, rev3_6 us ss d costs l, rev3_7 us ss d costs l, 5, 3, us, ss, d), 0, us, ss, d, (rev3_0 us ss d costs l).snd.fst, 0, 0, [])).fst then bif bif (↑(rev3_4 us ss d costs l).length : Int) != (↑(rev3_9 us ss d costs l).length : Int) then true else bif vev19_1 (rev3_5 us ss d costs l) (rev3_6 us ss d costs l) (rev3_7 us ss d costs l) (rev3_10 us ss d costs l) (rev3_11 us ss d costs l) (rev3_12 us ss d costs l) then bif bif false then true else !vev19_0 (rev3_5 us ss d costs l) (rev3_6 us ss d costs l) (rev3_7 us ss d costs l) (rev3_10 us ss d costs l) (rev3_11 us ss d costs l) (rev3_12 us ss d costs l) then true else bif vev20_1 us ss d then bif vev21_1 us ss d then bif bif false then true else vev20_0 us ss d != vev21_0 us ss d then true else bif vev22_1 us ss d then bif vev23_1 us ss d then true else false else false else false else false else false then bif bif (↑(rev3_4 us ss d costs l).length : Int) != (↑(rev3_9 us ss d costs l).length : Int) then true else bif vev19_1 (rev3_5 us ss d costs l) (rev3_6 us ss d costs l) (rev3_7 us ss d costs l) (rev3_10 us ss d costs l) (rev3_11 us ss d costs l) (rev3_12 us ss d costs l) then bif bif false then true else !vev19_0 (rev3_5 us ss d costs l) (rev3_6 us ss d costs l) (rev3_7 us ss d costs l) (rev3_10 us ss d costs l) (rev3_11 us ss d costs l) (rev3_12 us ss d costs l) then true else bif vev20_1 us ss d then bif vev21_1 us ss d then bif bif false then true else vev20_0 us ss d != vev21_0 us ss d then true else bif vev22_1 us ss d then bif vev23_1 us ss d then bif false then true else vev22_0 us ss d != vev23_0 us ss d else false else false else false else false else false then some (AV.bool false, []) else bif (spI g3_27 n3_27 y3_27 z3_27 d3_27 ((rev3_4 us ss d costs l, rev3_9 us ss d costs l), 0)).fst then bif xc3_27_0 (rev3_4 us ss d costs l) (rev3_13 us ss d costs l) (rev3_9 us ss d costs l) then some (AV.bool false, []) else some (AV.bool true, []) else none else none else none else none else none else none) (by kernel_rfl) ?_
 unfold vev3_0 vev3_1
 generalize (spI g3_18 _ _ _ _ _).fst = c0
 generalize (spI g3_8 _ _ _ _ _).fst = c1
 generalize (spI g3_27 _ _ _ _ _).fst = c2
 generalize (vev17_8 _ _ _ _ _ _ _ _ _ _ _) = c3
 generalize (!vev19_0 _ _ _ _ _ _) = c4
 generalize (vev19_1 _ _ _ _ _ _) = c5
 generalize (decide ((↑us.length : Int) > 20)) = c6
 generalize (decide ((↑l.length : Int) > 40)) = c7
 generalize (decide ((↑ss.length : Int) > 20)) = c8
 generalize ((↑(rev3_4 us ss d costs l).length : Int) != (↑(rev3_9 us ss d costs l).length : Int)) = c9
 generalize (decide ((↑costs.length : Int) > 12)) = c10
 generalize (xc3_27_0 _ _ _) = c11
 generalize (vev22_0 us ss d != vev23_0 us ss d) = c12
 generalize (vev20_0 us ss d != vev21_0 us ss d) = c13
 generalize (vev21_1 _ _ _) = c14
 generalize (vev23_1 _ _ _) = c15
 generalize (vev22_1 _ _ _) = c16
 generalize (vev20_1 _ _ _) = c17
 cases c6; cases c8; cases c10; cases c7; cases c1; rfl; cases c3; rfl; cases c0; rfl; cases c9; cases c5; rfl; cases c4; cases c17; rfl; cases c14
 rfl; cases c13; cases c16; rfl; cases c15; rfl; cases c12; cases c2; rfl; cases c11; rfl; rfl; rfl; rfl; rfl; rfl; rfl; rfl; rfl; rfl
end Go.Proofs.Gv
