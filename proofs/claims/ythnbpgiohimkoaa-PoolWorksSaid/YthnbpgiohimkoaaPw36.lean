import Derived.Test.YthnbpgiohimkoaaPw32
import Derived.Test.YthnbpgiohimkoaaPw35
import Derived.Test.YthnbpgiohimkoaaPw27
import Derived.KernelRfl
import Derived.Test.YthnbpgiohimkoaaPw30
set_option linter.unusedVariables false
namespace Go.Proofs.Gv
open Go.Proofs
noncomputable def vev89_0 (a b c d : Int) : Bool := bif decide (a ≥ 1) then bif bif true then decide (a ≤ 2147483647) else false then bif bif true then decide (b ≥ 0) else false then bif bif true then decide (b ≤ 7) else false then bif bif true then decide (c ≥ 1) else false then bif bif true then decide (c ≤ 1099511627776) else false then bif bif true then decide (d ≥ 0) else false then bif true then decide (d ≤ 2000) else false else false else false else false else false else false else false else false
theorem ev89 (a b c d : Int) : eF k67 noLsp 89 Try.f89 [.agg [iA a, iA b, iA c, iA d]] [] = bif true then some (true, AV.bool (vev89_0 a b c d), []) else none := by
 refine Eq.trans (b := bif bif decide (a ≥ 1) then bif bif true then decide (a ≤ 2147483647) else false then bif bif true then decide (b ≥ 0) else false then bif bif true then decide (b ≤ 7) else false then bif bif true then decide (c ≥ 1) else false then bif bif true then decide (c ≤ 1099511627776) else false then bif bif true then decide (d ≥ 0) else false then true else true else true else true else true else true else true else true then some (true, AV.bool (bif decide (a ≥ 1) then bif bif true then decide (a ≤ 2147483647) else false then bif bif true then decide (b ≥ 0) else false then bif bif true then decide (b ≤ 7) else false then bif bif true then decide (c ≥ 1) else false then bif bif true then decide (c ≤ 1099511627776) else false then bif bif true then decide (d ≥ 0) else false then bif true then decide (d ≤ 2000) else false else false else false else false else false else false else false else false), []) else none) (by kernel_rfl) ?_
 unfold vev89_0
 generalize (decide (d ≥ 0)) = c0
 generalize (decide (a ≥ 1)) = c1
 generalize (decide (a ≤ 2147483647)) = c2
 generalize (decide (b ≥ 0)) = c3
 generalize (decide (b ≤ 7)) = c4
 generalize (decide (c ≥ 1)) = c5
 generalize (decide (c ≤ 1099511627776)) = c6
 cases c1; rfl; cases c2; rfl; cases c3; rfl; cases c4; rfl; cases c5; rfl; cases c6; rfl; cases c0; rfl; rfl
noncomputable def sp89 : Sp
 | [.agg [.int .i64 a, .int .i64 b, .int .i64 c, .int .i64 d]], [] => spW (true) (some ((true, AV.bool (vev89_0 a b c d), [])))
 | _, _ => none
noncomputable def k89 : Gam := spG 89 sp89 k67
theorem k89_ok : GamOK Try.prog k89 := spG_ok k67_ok fun T C r outs hs => by
   unfold sp89 at hs
   split at hs
   ·rename_i a b c d
    obtain ⟨hb, rfl, rfl⟩ := spT_inv hs
    have he := ev89 a b c d
    obtain ⟨r0, o0, h0, he⟩ := evFin_inv he
    obtain ⟨h1, h2⟩ := fn_ok mixed plain (gk_ok k67_ok 30) Try.func89 (fun c _ => LoopsOK.none (fun _ _ => rfl) c) h0
    exact ⟨h1, h2.fin he⟩
   ·cases hs
noncomputable def go90_2 (a b c : Int) (e : Tk) (d : LL) : Bool := bif decide (b < (↑d.length : Int)) then bif decide (0 ≤ b) && decide (b < (↑d.length : Int)) then bif intOf ((d.getD b.toNat []).getD 0 AV.junk) == a then false else true else false else false
noncomputable def nx90_2_1 (a b c : Int) (e : Tk) (d : LL) : Int := IntKind.i64.wrap (b + 1)
noncomputable def xc90_2_0 (a b c : Int) (e : Tk) (d : LL) : Bool := bif decide (b < (↑d.length : Int)) then bif decide (0 ≤ b) && decide (b < (↑d.length : Int)) then intOf ((d.getD b.toNat []).getD 0 AV.junk) == a else false else false
noncomputable def xc90_2_1 (a b c : Int) (e : Tk) (d : LL) : Bool := bif decide (b < (↑d.length : Int)) then false else true
theorem rd90_2 (rest : Lsp) (a b c : Int) (e : Tk) (d : LL) : rV k89 rest 90 0 Try.f90 2 [1, 2, 5] [0] [4] [] [iA a, AV.hp 0 0, iA b] [Blk.var [iA c, AV.sl e kI4 d]] = bif go90_2 a b c e d then some (Ex.norm, [iA a, AV.hp 0 0, iA (nx90_2_1 a b c e d)], [Blk.var [iA c, AV.sl e kI4 d]]) else bif xc90_2_0 a b c e d then some (Ex.ret, [iA b], []) else bif xc90_2_1 a b c e d then some (Ex.exit 0, [AV.junk], []) else none := by
 refine Eq.trans (b := bif decide (b < (↑d.length : Int)) then bif decide (0 ≤ b) && decide (b < (↑d.length : Int)) then bif intOf ((d.getD b.toNat []).getD 0 AV.junk) == a then some (Ex.ret, [iA b], []) else some (Ex.norm, [iA a, AV.hp 0 0, iA (IntKind.i64.wrap (b + 1))], [Blk.var [iA c, AV.sl e kI4 d]]) else none else some (Ex.exit 0, [AV.junk], [])) (by kernel_rfl) ?_
 unfold go90_2 nx90_2_1 xc90_2_0 xc90_2_1
 generalize (decide (0 ≤ b) && decide (b < (↑d.length : Int))) = c0
 generalize (intOf ((d.getD b.toNat []).getD 0 AV.junk) == a) = c1
 generalize (decide (b < (↑d.length : Int))) = c2
 cases c2; rfl; cases c0; rfl; cases c1; rfl; rfl
abbrev pl90_2 : Type := Int × Int × Tk × LL
abbrev sl90_2 : Type := Int
noncomputable def vt90_2 (a : pl90_2 × sl90_2) : List AV := [iA a.1.1, AV.hp 0 0, iA a.2]
noncomputable def vc90_2 (a : pl90_2 × sl90_2) : List Blk := [Blk.var [iA a.1.2.1, AV.sl a.1.2.2.1 kI4 a.1.2.2.2]]
noncomputable def de90_2 (vt : List AV) (vc : List Blk) : Option (pl90_2 × sl90_2) :=
 match vt with
 | [qa0, qa1, qa2] => (match vc with
 | [qb0] => (match qa0 with
 | .int .i64 t1 => (match qa1 with
 | AV.hp (0) (0) => (match qa2 with
 | .int .i64 t5 => (match qb0 with
 | .var [.int .i64 b0_0, .sl b0_1k [.int .i64, .int .i64, .int .i64, .int .i64] b0_1] => (some ((t1, b0_0, b0_1k, b0_1), t5))
 | _ => none)
 | _ => none)
 | _ => none)
 | _ => none)
 | _ => none)
 | _ => none
theorem de90_2_ok (vt : List AV) (vc : List Blk) (a : pl90_2 × sl90_2) (h : de90_2 vt vc = some a) : vt = vt90_2 a ∧ vc = vc90_2 a := by
 unfold de90_2 at h
 iterate 6 (split at h; rotate_left; · cases h)
 injection h with h; subst h; exact ⟨rfl, rfl⟩
noncomputable def g90_2 (p : pl90_2) (s : sl90_2) : Bool := go90_2 p.1 s p.2.1 p.2.2.1 p.2.2.2
noncomputable def n90_2 (p : pl90_2) (s : sl90_2) : sl90_2 := nx90_2_1 p.1 s p.2.1 p.2.2.1 p.2.2.2
noncomputable def y90_2 (p : pl90_2) (s : sl90_2) : List (Bool × Out) := [(xc90_2_0 p.1 s p.2.1 p.2.2.1 p.2.2.2, (Ex.ret, [iA s], []))]
noncomputable def z90_2 (p : pl90_2) (s : sl90_2) : Bool := xc90_2_1 p.1 s p.2.1 p.2.2.1 p.2.2.2
noncomputable def d90_2 (p : pl90_2) (s : sl90_2) : Out := (Ex.exit 0, [AV.junk], [])
noncomputable def ls90_2 := lspOf [1, 2, 5] [0] [4] [] Try.f90.ntmps (0 + tab.nid 90) de90_2 (spI g90_2 n90_2 y90_2 z90_2 d90_2)
theorem lo90_2 (rest : Lsp) : lO k89 (selL 2 ls90_2 rest) 90 0 Try.f90 2 := LoopOK1.iter (i := 2) (by kernel_rfl) [1, 2, 5] [0] [4] [] vt90_2 vc90_2 de90_2 g90_2 n90_2 y90_2 z90_2 d90_2 (fun _ => rfl) de90_2_ok (fun p s => rd90_2 (selL 2 ls90_2 rest) (p.1) s (p.2.1) (p.2.2.1) (p.2.2.2)) (fun _ _ => rfl)
noncomputable def lsp90 : Lsp := (selL 2 ls90_2 noLsp)
theorem loops90 : ∀ c, Try.f90.body = some c → lsO k89 lsp90 90 0 Try.f90 c := loops_of [2] (by kernel_rfl) (by kernel_rfl) (fun i hi => by simp only [List.mem_cons, List.not_mem_nil, or_false] at hi; subst hi; exact lo90_2 noLsp)
noncomputable def rev90_0 (l : Int) (tk : Tk) (es : LL) (id : Int) : sl90_2 := finL (g90_2 (id, l, tk, es)) (n90_2 (id, l, tk, es)) 0
noncomputable def vev90_0 (l : Int) (tk : Tk) (es : LL) (id : Int) : sl90_2 := bif xc90_2_0 id (rev90_0 l tk es id) l tk es then rev90_0 l tk es id else (-1)
noncomputable def vev90_1 (l : Int) (tk : Tk) (es : LL) (id : Int) : Bool := bif (spI g90_2 n90_2 y90_2 z90_2 d90_2 ((id, l, tk, es), 0)).fst then true else false
theorem ev90 (l : Int) (tk : Tk) (es : LL) (id : Int) : eF k89 lsp90 90 Try.f90 [.agg [iA l, .sl tk kI4 es], iA id] [] = bif vev90_1 l tk es id then some (true, iA (vev90_0 l tk es id), []) else none := by
 refine Eq.trans (b := bif (spI g90_2 n90_2 y90_2 z90_2 d90_2 ((id, l, tk, es), 0)).fst then bif xc90_2_0 id (rev90_0 l tk es id) l tk es then some (true, iA (rev90_0 l tk es id), []) else some (true, iA (-1), []) else none) (by kernel_rfl) ?_
 unfold vev90_0 vev90_1
 generalize (spI g90_2 _ _ _ _ _).fst = c0
 generalize (xc90_2_0 _ _ _ _ _) = c1
 cases c0; rfl; cases c1; rfl; rfl
noncomputable def sp90 : Sp
 | [.agg [.int .i64 l, .sl tk [.int .i64, .int .i64, .int .i64, .int .i64] es], .int .i64 id], [] => spW (vev90_1 l tk es id) (some ((true, iA (vev90_0 l tk es id), [])))
 | _, _ => none
noncomputable def k90 : Gam := spG 90 sp90 k89
theorem k90_ok : GamOK Try.prog k90 := spG_ok k89_ok fun T C r outs hs => by
   unfold sp90 at hs
   split at hs
   ·exact okE k89_ok Try.func90 loops90 (ev90 _ _ _ _) hs
   ·cases hs
noncomputable def go88_6 (a b : Int) (d : Tk) (c : LL) : Bool := bif decide (a < (↑c.length : Int)) then bif decide (0 ≤ a) && decide (a < (↑c.length : Int)) then bif !vev89_0 (intOf ((c.getD a.toNat []).getD 0 AV.junk)) (intOf ((c.getD a.toNat []).getD (0 + 1) AV.junk)) (intOf ((c.getD a.toNat []).getD (0 + 1 + 1) AV.junk)) (intOf ((c.getD a.toNat []).getD (0 + 1 + 1 + 1) AV.junk)) then false else true else false else false
noncomputable def nx88_6_0 (a b : Int) (d : Tk) (c : LL) : Int := IntKind.i64.wrap (a + 1)
noncomputable def xc88_6_0 (a b : Int) (d : Tk) (c : LL) : Bool := bif decide (a < (↑c.length : Int)) then bif decide (0 ≤ a) && decide (a < (↑c.length : Int)) then !vev89_0 (intOf ((c.getD a.toNat []).getD 0 AV.junk)) (intOf ((c.getD a.toNat []).getD (0 + 1) AV.junk)) (intOf ((c.getD a.toNat []).getD (0 + 1 + 1) AV.junk)) (intOf ((c.getD a.toNat []).getD (0 + 1 + 1 + 1) AV.junk)) else false else false
noncomputable def xc88_6_1 (a b : Int) (d : Tk) (c : LL) : Bool := bif decide (a < (↑c.length : Int)) then false else true
theorem rd88_6 (rest : Lsp) (a b : Int) (d : Tk) (c : LL) : rV k90 rest 88 0 Try.f88 6 [1, 3] [0] [1, 2] [0] [AV.hp 0 0, iA a] [Blk.var [iA b, AV.sl d kI4 c]] = bif go88_6 a b d c then some (Ex.norm, [AV.hp 0 0, iA (nx88_6_0 a b d c)], [Blk.var [iA b, AV.sl d kI4 c]]) else bif xc88_6_0 a b d c then some (Ex.ret, [AV.hp 0 0, iA 8], [Blk.var [iA b, AV.sl d kI4 c]]) else bif xc88_6_1 a b d c then some (Ex.exit 1, [AV.hp 0 0, AV.junk], [Blk.var [iA b, AV.sl d kI4 c]]) else none := by
 refine Eq.trans (b := bif decide (a < (↑c.length : Int)) then bif decide (0 ≤ a) && decide (a < (↑c.length : Int)) then bif !vev89_0 (intOf ((c.getD a.toNat []).getD 0 AV.junk)) (intOf ((c.getD a.toNat []).getD (0 + 1) AV.junk)) (intOf ((c.getD a.toNat []).getD (0 + 1 + 1) AV.junk)) (intOf ((c.getD a.toNat []).getD (0 + 1 + 1 + 1) AV.junk)) then some (Ex.ret, [AV.hp 0 0, iA 8], [Blk.var [iA b, AV.sl d kI4 c]]) else some (Ex.norm, [AV.hp 0 0, iA (IntKind.i64.wrap (a + 1))], [Blk.var [iA b, AV.sl d kI4 c]]) else none else some (Ex.exit 1, [AV.hp 0 0, AV.junk], [Blk.var [iA b, AV.sl d kI4 c]])) (by kernel_rfl) ?_
 unfold go88_6 nx88_6_0 xc88_6_0 xc88_6_1
 generalize (!vev89_0 _ _ _ _) = c0
 generalize (decide (0 ≤ a) && decide (a < (↑c.length : Int))) = c1
 generalize (decide (a < (↑c.length : Int))) = c2
 cases c2; rfl; cases c1; rfl; cases c0; rfl; rfl
abbrev pl88_6 : Type := Int × Tk × LL
abbrev sl88_6 : Type := Int
noncomputable def vt88_6 (a : pl88_6 × sl88_6) : List AV := [AV.hp 0 0, iA a.2]
noncomputable def vc88_6 (a : pl88_6 × sl88_6) : List Blk := [Blk.var [iA a.1.1, AV.sl a.1.2.1 kI4 a.1.2.2]]
noncomputable def de88_6 (vt : List AV) (vc : List Blk) : Option (pl88_6 × sl88_6) :=
 match vt with
 | [qa0, qa1] => (match vc with
 | [qb0] => (match qa0 with
 | AV.hp (0) (0) => (match qa1 with
 | .int .i64 t3 => (match qb0 with
 | .var [.int .i64 b0_0, .sl b0_1k [.int .i64, .int .i64, .int .i64, .int .i64] b0_1] => (some ((b0_0, b0_1k, b0_1), t3))
 | _ => none)
 | _ => none)
 | _ => none)
 | _ => none)
 | _ => none
theorem de88_6_ok (vt : List AV) (vc : List Blk) (a : pl88_6 × sl88_6) (h : de88_6 vt vc = some a) : vt = vt88_6 a ∧ vc = vc88_6 a := by
 unfold de88_6 at h
 iterate 5 (split at h; rotate_left; · cases h)
 injection h with h; subst h; exact ⟨rfl, rfl⟩
noncomputable def g88_6 (p : pl88_6) (s : sl88_6) : Bool := go88_6 s p.1 p.2.1 p.2.2
noncomputable def n88_6 (p : pl88_6) (s : sl88_6) : sl88_6 := nx88_6_0 s p.1 p.2.1 p.2.2
noncomputable def y88_6 (p : pl88_6) (s : sl88_6) : List (Bool × Out) := [(xc88_6_0 s p.1 p.2.1 p.2.2, (Ex.ret, [AV.hp 0 0, iA 8], [Blk.var [iA p.1, AV.sl p.2.1 kI4 p.2.2]]))]
noncomputable def z88_6 (p : pl88_6) (s : sl88_6) : Bool := xc88_6_1 s p.1 p.2.1 p.2.2
noncomputable def d88_6 (p : pl88_6) (s : sl88_6) : Out := (Ex.exit 1, [AV.hp 0 0, AV.junk], [Blk.var [iA p.1, AV.sl p.2.1 kI4 p.2.2]])
noncomputable def ls88_6 := lspOf [1, 3] [0] [1, 2] [0] Try.f88.ntmps (0 + tab.nid 88) de88_6 (spI g88_6 n88_6 y88_6 z88_6 d88_6)
theorem lo88_6 (rest : Lsp) : lO k90 (selL 6 ls88_6 rest) 88 0 Try.f88 6 := LoopOK1.iter (i := 6) (by kernel_rfl) [1, 3] [0] [1, 2] [0] vt88_6 vc88_6 de88_6 g88_6 n88_6 y88_6 z88_6 d88_6 (fun _ => rfl) de88_6_ok (fun p s => rd88_6 (selL 6 ls88_6 rest) s (p.1) (p.2.1) (p.2.2)) (fun _ _ => rfl)
noncomputable def rn88_11_0 (a b : Int) (d : Tk) (c : LL) : Int := intOf ((c.getD a.toNat []).getD 0 AV.junk)
noncomputable def go88_11 (a b : Int) (d : Tk) (c : LL) : Bool := bif decide (a < (↑c.length : Int)) then bif decide (0 ≤ a) && decide (a < (↑c.length : Int)) then bif vev90_1 b d c (rn88_11_0 a b d c) then bif vev90_0 b d c (rn88_11_0 a b d c) != a then false else true else false else false else false
noncomputable def nx88_11_0 (a b : Int) (d : Tk) (c : LL) : Int := IntKind.i64.wrap (a + 1)
noncomputable def xc88_11_0 (a b : Int) (d : Tk) (c : LL) : Bool := bif decide (a < (↑c.length : Int)) then bif decide (0 ≤ a) && decide (a < (↑c.length : Int)) then bif vev90_1 b d c (rn88_11_0 a b d c) then vev90_0 b d c (rn88_11_0 a b d c) != a else false else false else false
noncomputable def xc88_11_1 (a b : Int) (d : Tk) (c : LL) : Bool := bif decide (a < (↑c.length : Int)) then false else true
theorem rd88_11 (rest : Lsp) (a b : Int) (d : Tk) (c : LL) : rV k90 (selL 6 ls88_6 rest) 88 0 Try.f88 11 [1, 4] [0] [2] [] [AV.hp 0 0, iA a] [Blk.var [iA b, AV.sl d kI4 c]] = bif go88_11 a b d c then some (Ex.norm, [AV.hp 0 0, iA (nx88_11_0 a b d c)], [Blk.var [iA b, AV.sl d kI4 c]]) else bif xc88_11_0 a b d c then some (Ex.ret, [iA 12], []) else bif xc88_11_1 a b d c then some (Ex.exit 3, [AV.junk], []) else none := by
 refine Eq.trans (b := bif decide (a < (↑c.length : Int)) then bif decide (0 ≤ a) && decide (a < (↑c.length : Int)) then bif vev90_1 b d c (rn88_11_0 a b d c) then bif vev90_0 b d c (rn88_11_0 a b d c) != a then some (Ex.ret, [iA 12], []) else some (Ex.norm, [AV.hp 0 0, iA (IntKind.i64.wrap (a + 1))], [Blk.var [iA b, AV.sl d kI4 c]]) else none else none else some (Ex.exit 3, [AV.junk], [])) (by kernel_rfl) ?_
 unfold go88_11 nx88_11_0 xc88_11_0 xc88_11_1
 generalize (decide (0 ≤ a) && decide (a < (↑c.length : Int))) = c0
 generalize (decide (a < (↑c.length : Int))) = c1
 generalize (vev90_0 b d c (rn88_11_0 a b d c) != a) = c2
 generalize (vev90_1 _ _ _ _) = c3
 cases c1; rfl; cases c0; rfl; cases c3; rfl; cases c2; rfl; rfl
abbrev pl88_11 : Type := Int × Tk × LL
abbrev sl88_11 : Type := Int
noncomputable def vt88_11 (a : pl88_11 × sl88_11) : List AV := [AV.hp 0 0, iA a.2]
noncomputable def vc88_11 (a : pl88_11 × sl88_11) : List Blk := [Blk.var [iA a.1.1, AV.sl a.1.2.1 kI4 a.1.2.2]]
noncomputable def de88_11 (vt : List AV) (vc : List Blk) : Option (pl88_11 × sl88_11) :=
 match vt with
 | [qa0, qa1] => (match vc with
 | [qb0] => (match qa0 with
 | AV.hp (0) (0) => (match qa1 with
 | .int .i64 t4 => (match qb0 with
 | .var [.int .i64 b0_0, .sl b0_1k [.int .i64, .int .i64, .int .i64, .int .i64] b0_1] => (some ((b0_0, b0_1k, b0_1), t4))
 | _ => none)
 | _ => none)
 | _ => none)
 | _ => none)
 | _ => none
theorem de88_11_ok (vt : List AV) (vc : List Blk) (a : pl88_11 × sl88_11) (h : de88_11 vt vc = some a) : vt = vt88_11 a ∧ vc = vc88_11 a := by
 unfold de88_11 at h
 iterate 5 (split at h; rotate_left; · cases h)
 injection h with h; subst h; exact ⟨rfl, rfl⟩
noncomputable def g88_11 (p : pl88_11) (s : sl88_11) : Bool := go88_11 s p.1 p.2.1 p.2.2
noncomputable def n88_11 (p : pl88_11) (s : sl88_11) : sl88_11 := nx88_11_0 s p.1 p.2.1 p.2.2
noncomputable def y88_11 (p : pl88_11) (s : sl88_11) : List (Bool × Out) := [(xc88_11_0 s p.1 p.2.1 p.2.2, (Ex.ret, [iA 12], []))]
noncomputable def z88_11 (p : pl88_11) (s : sl88_11) : Bool := xc88_11_1 s p.1 p.2.1 p.2.2
noncomputable def d88_11 (p : pl88_11) (s : sl88_11) : Out := (Ex.exit 3, [AV.junk], [])
noncomputable def ls88_11 := lspOf [1, 4] [0] [2] [] Try.f88.ntmps (0 + tab.nid 88) de88_11 (spI g88_11 n88_11 y88_11 z88_11 d88_11)
theorem lo88_11 (rest : Lsp) : lO k90 (selL 6 ls88_6 (selL 11 ls88_11 rest)) 88 0 Try.f88 11 := LoopOK1.iter (i := 11) (by kernel_rfl) [1, 4] [0] [2] [] vt88_11 vc88_11 de88_11 g88_11 n88_11 y88_11 z88_11 d88_11 (fun _ => rfl) de88_11_ok (fun p s => rd88_11 (selL 11 ls88_11 rest) s (p.1) (p.2.1) (p.2.2)) (fun _ _ => rfl)
noncomputable def lsp88 : Lsp := (selL 6 ls88_6 (selL 11 ls88_11 noLsp))
theorem loops88 : ∀ c, Try.f88.body = some c → lsO k90 lsp88 88 0 Try.f88 c := loops_of [6, 11] (by kernel_rfl) (by kernel_rfl) (fun i hi => by
 simp only [List.mem_cons, List.not_mem_nil, or_false] at hi
 rcases hi with rfl | rfl
 ·exact lo88_6 (selL 11 ls88_11 noLsp)
 ·exact lo88_11 noLsp)
noncomputable def rev88_0 (l : Int) (tk : Tk) (es : LL) : sl88_6 := finL (g88_6 (l, tk, es)) (n88_6 (l, tk, es)) 0
noncomputable def rev88_1 (l : Int) (tk : Tk) (es : LL) : sl88_11 := finL (g88_11 (l, tk, es)) (n88_11 (l, tk, es)) 0
noncomputable def vev88_0 (l : Int) (tk : Tk) (es : LL) : Int := bif bif decide (l < 1) then true else decide (l > 1000) then 8 else bif decide ((↑es.length : Int) > 16) then 7 else bif xc88_6_0 (rev88_0 l tk es) l tk es then 8 else bif xc88_11_0 (rev88_1 l tk es) l tk es then 12 else 0
noncomputable def vev88_1 (l : Int) (tk : Tk) (es : LL) : Bool := bif bif decide (l < 1) then true else decide (l > 1000) then true else bif decide ((↑es.length : Int) > 16) then true else bif (spI g88_6 n88_6 y88_6 z88_6 d88_6 ((l, tk, es), 0)).fst then bif xc88_6_0 (rev88_0 l tk es) l tk es then true else bif (spI g88_11 n88_11 y88_11 z88_11 d88_11 ((l, tk, es), 0)).fst then true else false else false
theorem ev88 (l : Int) (tk : Tk) (es : LL) : eF k90 lsp88 88 Try.f88 [.agg [iA l, .sl tk kI4 es]] [] = bif vev88_1 l tk es then some (true, iA (vev88_0 l tk es), []) else none := by
 refine Eq.trans (b := bif bif decide (l < 1) then true else true then bif bif decide (l < 1) then true else bif false then true else decide (l > 1000) then some (true, iA 8, []) else bif decide ((↑es.length : Int) > 16) then some (true, iA 7, []) else bif (spI g88_6 n88_6 y88_6 z88_6 d88_6 ((l, tk, es), 0)).fst then bif xc88_6_0 (rev88_0 l tk es) l tk es then some (true, iA 8, []) else bif (spI g88_11 n88_11 y88_11 z88_11 d88_11 ((l, tk, es), 0)).fst then bif xc88_11_0 (rev88_1 l tk es) l tk es then some (true, iA 12, []) else some (true, iA 0, []) else none else none else none) (by kernel_rfl) ?_
 unfold vev88_0 vev88_1
 generalize (spI g88_11 _ _ _ _ _).fst = c0
 generalize (spI g88_6 _ _ _ _ _).fst = c1
 generalize (decide ((↑es.length : Int) > 16)) = c2
 generalize (decide (l < 1)) = c3
 generalize (decide (l > 1000)) = c4
 generalize (xc88_11_0 _ _ _ _) = c5
 generalize (xc88_6_0 _ _ _ _) = c6
 cases c3; cases c4; cases c2; cases c1; rfl; cases c6; cases c0; rfl; cases c5; rfl; rfl; rfl; rfl; rfl; rfl
noncomputable def sp88 : Sp
 | [.agg [.int .i64 l, .sl tk [.int .i64, .int .i64, .int .i64, .int .i64] es]], [] => spW (vev88_1 l tk es) (some ((true, iA (vev88_0 l tk es), [])))
 | _, _ => none
noncomputable def k88 : Gam := spG 88 sp88 k90
theorem k88_ok : GamOK Try.prog k88 := spG_ok k90_ok fun T C r outs hs => by
   unfold sp88 at hs
   split at hs
   ·exact okE k90_ok Try.func88 loops88 (ev88 _ _ _) hs
   ·cases hs
noncomputable def vev88n_0 (l : Int) : Int := bif bif decide (l < 1) then true else decide (l > 1000) then 8 else 0
theorem ev88n (l : Int) : eF k88 noLsp 88 Try.f88 [.agg [iA l, .nil]] [] = bif true then some (true, iA (vev88n_0 l), []) else none := by
 refine Eq.trans (b := bif bif decide (l < 1) then true else true then bif bif decide (l < 1) then true else bif false then true else decide (l > 1000) then some (true, iA 8, []) else some (true, iA 0, []) else none) (by kernel_rfl) ?_
 unfold vev88n_0
 generalize (decide (l > 1000)) = c0
 generalize (decide (l < 1)) = c1
 cases c1; cases c0; rfl; rfl; rfl
noncomputable def sp88n : Sp
 | [.agg [.int .i64 l, .nil]], [] => spW (true) (some ((true, iA (vev88n_0 l), [])))
 | _, _ => none
noncomputable def k88n : Gam := spG 88 sp88n k88
theorem k88n_ok : GamOK Try.prog k88n := spG_ok k88_ok fun T C r outs hs => by
   unfold sp88n at hs
   split at hs
   ·rename_i l
    obtain ⟨hb, rfl, rfl⟩ := spT_inv hs
    have he := ev88n l
    obtain ⟨r0, o0, h0, he⟩ := evFin_inv he
    obtain ⟨h1, h2⟩ := fn_ok mixed plain (gk_ok k88_ok 30) Try.func88 (fun c _ => LoopsOK.none (fun _ _ => rfl) c) h0
    exact ⟨h1, h2.fin he⟩
   ·cases hs
noncomputable def go91_3 (a b c : Int) (e : Tk) (d : LL) : Bool := bif bif decide (b < (↑d.length : Int)) then vev88_1 c e d else true then bif bif decide (b < (↑d.length : Int)) then bif vev88_1 c e d then vev88_0 c e d == 0 else false else false then decide (0 ≤ b) && decide (b < (↑d.length : Int)) else false else false
noncomputable def nx91_3_0 (a b c : Int) (e : Tk) (d : LL) : Int := IntKind.i64.wrap (a + intOf ((d.getD b.toNat []).getD (0 + 1 + 1) AV.junk))
noncomputable def nx91_3_1 (a b c : Int) (e : Tk) (d : LL) : Int := IntKind.i64.wrap (b + 1)
noncomputable def xc91_3_0 (a b c : Int) (e : Tk) (d : LL) : Bool := bif bif decide (b < (↑d.length : Int)) then vev88_1 c e d else true then bif bif decide (b < (↑d.length : Int)) then bif vev88_1 c e d then vev88_0 c e d == 0 else false else false then false else true else false
theorem rd91_3 (rest : Lsp) (a b c : Int) (e : Tk) (d : LL) : rV k88n rest 91 0 Try.f91 3 [1, 3, 4] [0] [3] [] [AV.hp 0 0, iA a, iA b] [Blk.var [iA c, AV.sl e kI4 d]] = bif go91_3 a b c e d then some (Ex.norm, [AV.hp 0 0, iA (nx91_3_0 a b c e d), iA (nx91_3_1 a b c e d)], [Blk.var [iA c, AV.sl e kI4 d]]) else bif xc91_3_0 a b c e d then some (Ex.exit 0, [iA a], []) else none := by
 refine Eq.trans (b := bif bif decide (b < (↑d.length : Int)) then bif vev88_1 c e d then true else false else true then bif bif decide (b < (↑d.length : Int)) then bif vev88_1 c e d then bif true then vev88_0 c e d == 0 else false else false else false then bif decide (0 ≤ b) && decide (b < (↑d.length : Int)) then some (Ex.norm, [AV.hp 0 0, iA (IntKind.i64.wrap (a + intOf ((d.getD b.toNat []).getD (0 + 1 + 1) AV.junk))), iA (IntKind.i64.wrap (b + 1))], [Blk.var [iA c, AV.sl e kI4 d]]) else none else some (Ex.exit 0, [iA a], []) else none) (by kernel_rfl) ?_
 unfold go91_3 nx91_3_0 nx91_3_1 xc91_3_0
 generalize (decide (0 ≤ b) && decide (b < (↑d.length : Int))) = c0
 generalize (decide (b < (↑d.length : Int))) = c1
 generalize (vev88_0 c e d == 0) = c2
 generalize (vev88_1 _ _ _) = c3
 cases c1; rfl; cases c3; rfl; cases c2; rfl; cases c0; rfl; rfl
abbrev pl91_3 : Type := Int × Tk × LL
abbrev sl91_3 : Type := Int × Int
noncomputable def vt91_3 (a : pl91_3 × sl91_3) : List AV := [AV.hp 0 0, iA a.2.1, iA a.2.2]
noncomputable def vc91_3 (a : pl91_3 × sl91_3) : List Blk := [Blk.var [iA a.1.1, AV.sl a.1.2.1 kI4 a.1.2.2]]
noncomputable def de91_3 (vt : List AV) (vc : List Blk) : Option (pl91_3 × sl91_3) :=
 match vt with
 | [qa0, qa1, qa2] => (match vc with
 | [qb0] => (match qa0 with
 | AV.hp (0) (0) => (match qa1 with
 | .int .i64 t3 => (match qa2 with
 | .int .i64 t4 => (match qb0 with
 | .var [.int .i64 b0_0, .sl b0_1k [.int .i64, .int .i64, .int .i64, .int .i64] b0_1] => (some ((b0_0, b0_1k, b0_1), (t3, t4)))
 | _ => none)
 | _ => none)
 | _ => none)
 | _ => none)
 | _ => none)
 | _ => none
theorem de91_3_ok (vt : List AV) (vc : List Blk) (a : pl91_3 × sl91_3) (h : de91_3 vt vc = some a) : vt = vt91_3 a ∧ vc = vc91_3 a := by
 unfold de91_3 at h
 iterate 6 (split at h; rotate_left; · cases h)
 injection h with h; subst h; exact ⟨rfl, rfl⟩
noncomputable def g91_3 (p : pl91_3) (s : sl91_3) : Bool := go91_3 s.1 s.2 p.1 p.2.1 p.2.2
noncomputable def n91_3 (p : pl91_3) (s : sl91_3) : sl91_3 := (nx91_3_0 s.1 s.2 p.1 p.2.1 p.2.2, nx91_3_1 s.1 s.2 p.1 p.2.1 p.2.2)
noncomputable def y91_3 (p : pl91_3) (s : sl91_3) : List (Bool × Out) := []
noncomputable def z91_3 (p : pl91_3) (s : sl91_3) : Bool := xc91_3_0 s.1 s.2 p.1 p.2.1 p.2.2
noncomputable def d91_3 (p : pl91_3) (s : sl91_3) : Out := (Ex.exit 0, [iA s.1], [])
noncomputable def ls91_3 := lspOf [1, 3, 4] [0] [3] [] Try.f91.ntmps (0 + tab.nid 91) de91_3 (spI g91_3 n91_3 y91_3 z91_3 d91_3)
theorem lo91_3 (rest : Lsp) : lO k88n (selL 3 ls91_3 rest) 91 0 Try.f91 3 := LoopOK1.iter (i := 3) (by kernel_rfl) [1, 3, 4] [0] [3] [] vt91_3 vc91_3 de91_3 g91_3 n91_3 y91_3 z91_3 d91_3 (fun _ => rfl) de91_3_ok (fun p s => rd91_3 (selL 3 ls91_3 rest) (s.1) (s.2) (p.1) (p.2.1) (p.2.2)) (fun _ _ => rfl)
noncomputable def lsp91 : Lsp := (selL 3 ls91_3 noLsp)
theorem loops91 : ∀ c, Try.f91.body = some c → lsO k88n lsp91 91 0 Try.f91 c := loops_of [3] (by kernel_rfl) (by kernel_rfl) (fun i hi => by simp only [List.mem_cons, List.not_mem_nil, or_false] at hi; subst hi; exact lo91_3 noLsp)
noncomputable def rev91_0 (l : Int) (tk : Tk) (es : LL) : sl91_3 := finL (g91_3 (l, tk, es)) (n91_3 (l, tk, es)) (0, 0)
noncomputable def vev91_0 (l : Int) (tk : Tk) (es : LL) : Int := (rev91_0 l tk es).fst
noncomputable def vev91_1 (l : Int) (tk : Tk) (es : LL) : Bool := bif (spI g91_3 n91_3 y91_3 z91_3 d91_3 ((l, tk, es), 0, 0)).fst then true else false
theorem ev91 (l : Int) (tk : Tk) (es : LL) : eF k88n lsp91 91 Try.f91 [.agg [iA l, .sl tk kI4 es]] [] = bif vev91_1 l tk es then some (true, iA (vev91_0 l tk es), []) else none := by
 refine Eq.trans (b := bif (spI g91_3 n91_3 y91_3 z91_3 d91_3 ((l, tk, es), 0, 0)).fst then some (true, iA (rev91_0 l tk es).fst, []) else none) (by kernel_rfl) ?_
 unfold vev91_0 vev91_1
 generalize (spI g91_3 _ _ _ _ _).fst = c0
 cases c0
 ·skip
  rfl
 ·skip
  rfl
noncomputable def sp91 : Sp
 | [.agg [.int .i64 l, .sl tk [.int .i64, .int .i64, .int .i64, .int .i64] es]], [] => spW (vev91_1 l tk es) (some ((true, iA (vev91_0 l tk es), [])))
 | _, _ => none
noncomputable def k91 : Gam := spG 91 sp91 k88n
theorem k91_ok : GamOK Try.prog k91 := spG_ok k88n_ok fun T C r outs hs => by
   unfold sp91 at hs
   split at hs
   ·exact okE k88n_ok Try.func91 loops91 (ev91 _ _ _) hs
   ·cases hs
noncomputable def rev51_0 (l : Int) (es : LL) (id rank cost : Int) : LL := [[iA id, iA rank, iA cost, iA 0]]
noncomputable def vev51_0 (l : Int) (es : LL) (id rank cost : Int) : LL := bif vev88_0 l Tk.imm es != 0 then es else bif !vev89_0 id rank cost 0 then es else bif decide (vev90_0 l Tk.imm es id ≥ 0) then es else bif decide ((↑es.length : Int) ≥ 16) then es else es ++ rev51_0 l es id rank cost
noncomputable def vev51_1 (l : Int) (es : LL) (id rank cost : Int) : Int := bif vev88_0 l Tk.imm es != 0 then vev88_0 l Tk.imm es else bif !vev89_0 id rank cost 0 then 8 else bif decide (vev90_0 l Tk.imm es id ≥ 0) then 12 else bif decide ((↑es.length : Int) ≥ 16) then 7 else 0
noncomputable def vev51_2 (l : Int) (es : LL) (id rank cost : Int) : Bool := bif vev88_1 l Tk.imm es then bif vev88_0 l Tk.imm es != 0 then true else bif !vev89_0 id rank cost 0 then true else bif vev90_1 l Tk.imm es id then bif decide (vev90_0 l Tk.imm es id ≥ 0) then true else bif decide ((↑es.length : Int) ≥ 16) then true else bif bif decide (es.length * 32 ≤ 140737488355328) then decide (es.length ≤ 9223372036854775807) else false then bif bif decide ((es.length + (rev51_0 l es id rank cost).length) * 32 ≤ 140737488355328) then decide (es.length + (rev51_0 l es id rank cost).length ≤ 9223372036854775807) else false then true else false else false else false else false
theorem ev51 (l : Int) (es : LL) (id rank cost : Int) : eF k91 noLsp 51 Try.f51 [.agg [iA l, .sl .imm kI4 es], iA id, iA rank, iA cost] [] = bif vev51_2 l es id rank cost then some (true, AV.tup [AV.agg [iA l, AV.sl Tk.imm kI4 (vev51_0 l es id rank cost)], iA (vev51_1 l es id rank cost)], []) else none := by
 refine Eq.trans (b := bif vev88_1 l Tk.imm es then bif vev88_0 l Tk.imm es != 0 then some (true, AV.tup [AV.agg [iA l, AV.sl Tk.imm kI4 es], iA (vev88_0 l Tk.imm es)], []) else bif !vev89_0 id rank cost 0 then some (true, AV.tup [AV.agg [iA l, AV.sl Tk.imm kI4 es], iA 8], []) else bif vev90_1 l Tk.imm es id then bif decide (vev90_0 l Tk.imm es id ≥ 0) then some (true, AV.tup [AV.agg [iA l, AV.sl Tk.imm kI4 es], iA 12], []) else bif decide ((↑es.length : Int) ≥ 16) then some (true, AV.tup [AV.agg [iA l, AV.sl Tk.imm kI4 es], iA 7], []) else bif bif decide (es.length * 32 ≤ 140737488355328) then decide (es.length ≤ 9223372036854775807) else false then bif bif decide ((es.length + (rev51_0 l es id rank cost).length) * 32 ≤ 140737488355328) then decide (es.length + (rev51_0 l es id rank cost).length ≤ 9223372036854775807) else false then some (true, AV.tup [AV.agg [iA l, AV.sl Tk.imm kI4 (es ++ rev51_0 l es id rank cost)], iA 0], []) else none else none else none else none) (by kernel_rfl) ?_
 unfold vev51_0 vev51_1 vev51_2
 generalize (decide ((es.length + (rev51_0 l es id rank cost).length) * 32 ≤ 140737488355328)) = c0
 generalize (decide (es.length + (rev51_0 l es id rank cost).length ≤ 9223372036854775807)) = c1
 generalize (decide (es.length * 32 ≤ 140737488355328)) = c2
 generalize (decide ((↑es.length : Int) ≥ 16)) = c3
 generalize (decide (vev90_0 l Tk.imm es id ≥ 0)) = c4
 generalize (decide (es.length ≤ 9223372036854775807)) = c5
 generalize (vev88_0 l Tk.imm es != 0) = c6
 generalize (!vev89_0 _ _ _ _) = c7
 generalize (vev90_1 _ _ _ _) = c8
 generalize (vev88_1 _ _ _) = c9
 cases c9; rfl; cases c6; cases c7; cases c8; rfl; cases c4; cases c3; cases c2; rfl; cases c5; rfl; cases c0; rfl; cases c1; rfl; rfl; rfl; rfl; rfl
 rfl
noncomputable def sp51 : Sp
 | [.agg [.int .i64 l, .sl .imm [.int .i64, .int .i64, .int .i64, .int .i64] es], .int .i64 id, .int .i64 rank, .int .i64 cost], [] => spW (vev51_2 l es id rank cost) (some ((true, AV.tup [AV.agg [iA l, AV.sl Tk.imm kI4 (vev51_0 l es id rank cost)], iA (vev51_1 l es id rank cost)], [])))
 | _, _ => none
noncomputable def k51 : Gam := spG 51 sp51 k91
theorem k51_ok : GamOK Try.prog k51 := spG_ok k91_ok fun T C r outs hs => by
   unfold sp51 at hs
   split at hs
   ·exact okE k91_ok Try.func51 (fun c _ => LoopsOK.none (fun _ _ => rfl) c) (ev51 _ _ _ _ _) hs
   ·cases hs
noncomputable def rev98_0 (l : Int) (es : LL) (i : Int) : Int := IntKind.i64.wrap (i + 1)
noncomputable def rev98_1 (l : Int) (es : LL) (i : Int) : LL := List.drop (rev98_0 l es i).toNat es
noncomputable def vev98_0 (l : Int) (es : LL) (i : Int) : LL := List.take i.toNat es ++ rev98_1 l es i
noncomputable def vev98_1 (l : Int) (es : LL) (i : Int) : Bool := bif bnd 0 i (↑es.length : Int) then bif bif decide ((List.take i.toNat es).length * 32 ≤ 140737488355328) then decide ((List.take i.toNat es).length ≤ 9223372036854775807) else false then bif bnd (rev98_0 l es i) (↑es.length : Int) (↑es.length : Int) then bif bif decide (((List.take i.toNat es).length + (rev98_1 l es i).length) * 32 ≤ 140737488355328) then decide ((List.take i.toNat es).length + (rev98_1 l es i).length ≤ 9223372036854775807) else false then true else false else false else false else false
theorem ev98 (l : Int) (es : LL) (i : Int) : eF k51 noLsp 98 Try.f98 [.agg [iA l, .sl .imm kI4 es], iA i] [] = bif vev98_1 l es i then some (true, AV.agg [iA l, AV.sl Tk.imm kI4 (vev98_0 l es i)], []) else none := by
 refine Eq.trans (b := bif bnd 0 i (↑es.length : Int) then bif bif decide ((List.take i.toNat es).length * 32 ≤ 140737488355328) then decide ((List.take i.toNat es).length ≤ 9223372036854775807) else false then bif bnd (rev98_0 l es i) (↑es.length : Int) (↑es.length : Int) then bif bif decide (((List.take i.toNat es).length + (rev98_1 l es i).length) * 32 ≤ 140737488355328) then decide ((List.take i.toNat es).length + (rev98_1 l es i).length ≤ 9223372036854775807) else false then some (true, AV.agg [iA l, AV.sl Tk.imm kI4 (List.take i.toNat es ++ rev98_1 l es i)], []) else none else none else none else none) (by kernel_rfl) ?_
 unfold vev98_0 vev98_1
 generalize (decide (((List.take i.toNat es).length + (rev98_1 l es i).length) * 32 ≤ 140737488355328)) = c0
 generalize (decide ((List.take i.toNat es).length + (rev98_1 l es i).length ≤ 9223372036854775807)) = c1
 generalize (decide ((List.take i.toNat es).length * 32 ≤ 140737488355328)) = c2
 generalize (decide ((List.take i.toNat es).length ≤ 9223372036854775807)) = c3
 generalize (bnd (rev98_0 l es i) (↑es.length : Int) (↑es.length : Int)) = c4
 generalize (bnd 0 i (↑es.length : Int)) = c5
 cases c5; rfl; cases c2; rfl; cases c3; rfl; cases c4; rfl; cases c0; rfl; cases c1; rfl; rfl
noncomputable def sp98 : Sp
 | [.agg [.int .i64 l, .sl .imm [.int .i64, .int .i64, .int .i64, .int .i64] es], .int .i64 i], [] => spW (vev98_1 l es i) (some ((true, AV.agg [iA l, AV.sl Tk.imm kI4 (vev98_0 l es i)], [])))
 | _, _ => none
noncomputable def k98 : Gam := spG 98 sp98 k51
theorem k98_ok : GamOK Try.prog k98 := spG_ok k51_ok fun T C r outs hs => by
   unfold sp98 at hs
   split at hs
   ·exact okE k51_ok Try.func98 (fun c _ => LoopsOK.none (fun _ _ => rfl) c) (ev98 _ _ _) hs
   ·cases hs
noncomputable def rev98l_0 (l : Int) (es : LL) (i : Int) : Int := IntKind.i64.wrap (i + 1)
noncomputable def rev98l_1 (l : Int) (es : LL) (i : Int) : LL := List.drop (rev98l_0 l es i).toNat es
noncomputable def vev98l_0 (l : Int) (es : LL) (i : Int) : LL := List.take i.toNat es ++ rev98l_1 l es i
noncomputable def vev98l_1 (l : Int) (es : LL) (i : Int) : Bool := bif bnd 0 i (↑es.length : Int) then bif bif decide ((List.take i.toNat es).length * 32 ≤ 140737488355328) then decide ((List.take i.toNat es).length ≤ 9223372036854775807) else false then bif bnd (rev98l_0 l es i) (↑es.length : Int) (↑es.length : Int) then bif bif decide (((List.take i.toNat es).length + (rev98l_1 l es i).length) * 32 ≤ 140737488355328) then decide ((List.take i.toNat es).length + (rev98l_1 l es i).length ≤ 9223372036854775807) else false then true else false else false else false else false
theorem ev98l (l : Int) (es : LL) (i : Int) : eF k98 noLsp 98 Try.f98 [.agg [iA l, .sl .lent kI4 es], iA i] [] = bif vev98l_1 l es i then some (true, AV.agg [iA l, AV.sl Tk.imm kI4 (vev98l_0 l es i)], []) else none := by
 refine Eq.trans (b := bif bnd 0 i (↑es.length : Int) then bif bif decide ((List.take i.toNat es).length * 32 ≤ 140737488355328) then decide ((List.take i.toNat es).length ≤ 9223372036854775807) else false then bif bnd (rev98l_0 l es i) (↑es.length : Int) (↑es.length : Int) then bif bif decide (((List.take i.toNat es).length + (rev98l_1 l es i).length) * 32 ≤ 140737488355328) then decide ((List.take i.toNat es).length + (rev98l_1 l es i).length ≤ 9223372036854775807) else false then some (true, AV.agg [iA l, AV.sl Tk.imm kI4 (List.take i.toNat es ++ rev98l_1 l es i)], []) else none else none else none else none) (by kernel_rfl) ?_
 unfold vev98l_0 vev98l_1
 generalize (decide (((List.take i.toNat es).length + (rev98l_1 l es i).length) * 32 ≤ 140737488355328)) = c0
 generalize (decide ((List.take i.toNat es).length + (rev98l_1 l es i).length ≤ 9223372036854775807)) = c1
 generalize (decide ((List.take i.toNat es).length * 32 ≤ 140737488355328)) = c2
 generalize (decide ((List.take i.toNat es).length ≤ 9223372036854775807)) = c3
 generalize (bnd (rev98l_0 l es i) (↑es.length : Int) (↑es.length : Int)) = c4
 generalize (bnd 0 i (↑es.length : Int)) = c5
 cases c5; rfl; cases c2; rfl; cases c3; rfl; cases c4; rfl; cases c0; rfl; cases c1; rfl; rfl
noncomputable def sp98l : Sp
 | [.agg [.int .i64 l, .sl .lent [.int .i64, .int .i64, .int .i64, .int .i64] es], .int .i64 i], [] => spW (vev98l_1 l es i) (some ((true, AV.agg [iA l, AV.sl Tk.imm kI4 (vev98l_0 l es i)], [])))
 | _, _ => none
noncomputable def k98l : Gam := spG 98 sp98l k98
theorem k98l_ok : GamOK Try.prog k98l := spG_ok k98_ok fun T C r outs hs => by
   unfold sp98l at hs
   split at hs
   ·exact okE k98_ok Try.func98 (fun c _ => LoopsOK.none (fun _ _ => rfl) c) (ev98l _ _ _) hs
   ·cases hs
noncomputable def rn102_4_0 (a b : Int) (d : Tk) (c : LL) : Int := intOf ((c.getD a.toNat []).getD (0 + 1 + 1 + 1) AV.junk)
noncomputable def go102_4 (a b : Int) (d : Tk) (c : LL) : Bool := bif decide (a < (↑c.length : Int)) then bif decide (0 ≤ a) && decide (a < (↑c.length : Int)) then bif decide (rn102_4_0 a b d c ≥ b) then false else true else false else false
noncomputable def nx102_4_0 (a b : Int) (d : Tk) (c : LL) : Int := IntKind.i64.wrap (a + 1)
noncomputable def xc102_4_0 (a b : Int) (d : Tk) (c : LL) : Bool := bif decide (a < (↑c.length : Int)) then bif decide (0 ≤ a) && decide (a < (↑c.length : Int)) then decide (rn102_4_0 a b d c ≥ b) else false else false
noncomputable def xc102_4_1 (a b : Int) (d : Tk) (c : LL) : Bool := bif decide (a < (↑c.length : Int)) then false else true
theorem rd102_4 (rest : Lsp) (a b : Int) (d : Tk) (c : LL) : rV k98l rest 102 0 Try.f102 4 [1, 3] [0] [1, 2] [0] [AV.hp 0 0, iA a] [Blk.var [iA b, AV.sl d kI4 c]] = bif go102_4 a b d c then some (Ex.norm, [AV.hp 0 0, iA (nx102_4_0 a b d c)], [Blk.var [iA b, AV.sl d kI4 c]]) else bif xc102_4_0 a b d c then some (Ex.ret, [AV.hp 0 0, iA a], [Blk.var [iA b, AV.sl d kI4 c]]) else bif xc102_4_1 a b d c then some (Ex.exit 0, [AV.hp 0 0, AV.junk], [Blk.var [iA b, AV.sl d kI4 c]]) else none := by
 refine Eq.trans (b := bif decide (a < (↑c.length : Int)) then bif decide (0 ≤ a) && decide (a < (↑c.length : Int)) then bif decide (rn102_4_0 a b d c ≥ b) then some (Ex.ret, [AV.hp 0 0, iA a], [Blk.var [iA b, AV.sl d kI4 c]]) else some (Ex.norm, [AV.hp 0 0, iA (IntKind.i64.wrap (a + 1))], [Blk.var [iA b, AV.sl d kI4 c]]) else none else some (Ex.exit 0, [AV.hp 0 0, AV.junk], [Blk.var [iA b, AV.sl d kI4 c]])) (by kernel_rfl) ?_
 unfold go102_4 nx102_4_0 xc102_4_0 xc102_4_1
 generalize (decide (0 ≤ a) && decide (a < (↑c.length : Int))) = c0
 generalize (decide (a < (↑c.length : Int))) = c1
 generalize (decide (rn102_4_0 a b d c ≥ b)) = c2
 cases c1; rfl; cases c0; rfl; cases c2; rfl; rfl
abbrev pl102_4 : Type := Int × Tk × LL
abbrev sl102_4 : Type := Int
noncomputable def vt102_4 (a : pl102_4 × sl102_4) : List AV := [AV.hp 0 0, iA a.2]
noncomputable def vc102_4 (a : pl102_4 × sl102_4) : List Blk := [Blk.var [iA a.1.1, AV.sl a.1.2.1 kI4 a.1.2.2]]
noncomputable def de102_4 (vt : List AV) (vc : List Blk) : Option (pl102_4 × sl102_4) :=
 match vt with
 | [qa0, qa1] => (match vc with
 | [qb0] => (match qa0 with
 | AV.hp (0) (0) => (match qa1 with
 | .int .i64 t3 => (match qb0 with
 | .var [.int .i64 b0_0, .sl b0_1k [.int .i64, .int .i64, .int .i64, .int .i64] b0_1] => (some ((b0_0, b0_1k, b0_1), t3))
 | _ => none)
 | _ => none)
 | _ => none)
 | _ => none)
 | _ => none
theorem de102_4_ok (vt : List AV) (vc : List Blk) (a : pl102_4 × sl102_4) (h : de102_4 vt vc = some a) : vt = vt102_4 a ∧ vc = vc102_4 a := by
 unfold de102_4 at h
 iterate 5 (split at h; rotate_left; · cases h)
 injection h with h; subst h; exact ⟨rfl, rfl⟩
noncomputable def g102_4 (p : pl102_4) (s : sl102_4) : Bool := go102_4 s p.1 p.2.1 p.2.2
noncomputable def n102_4 (p : pl102_4) (s : sl102_4) : sl102_4 := nx102_4_0 s p.1 p.2.1 p.2.2
noncomputable def y102_4 (p : pl102_4) (s : sl102_4) : List (Bool × Out) := [(xc102_4_0 s p.1 p.2.1 p.2.2, (Ex.ret, [AV.hp 0 0, iA s], [Blk.var [iA p.1, AV.sl p.2.1 kI4 p.2.2]]))]
noncomputable def z102_4 (p : pl102_4) (s : sl102_4) : Bool := xc102_4_1 s p.1 p.2.1 p.2.2
noncomputable def d102_4 (p : pl102_4) (s : sl102_4) : Out := (Ex.exit 0, [AV.hp 0 0, AV.junk], [Blk.var [iA p.1, AV.sl p.2.1 kI4 p.2.2]])
noncomputable def ls102_4 := lspOf [1, 3] [0] [1, 2] [0] Try.f102.ntmps (0 + tab.nid 102) de102_4 (spI g102_4 n102_4 y102_4 z102_4 d102_4)
theorem lo102_4 (rest : Lsp) : lO k98l (selL 4 ls102_4 rest) 102 0 Try.f102 4 := LoopOK1.iter (i := 4) (by kernel_rfl) [1, 3] [0] [1, 2] [0] vt102_4 vc102_4 de102_4 g102_4 n102_4 y102_4 z102_4 d102_4 (fun _ => rfl) de102_4_ok (fun p s => rd102_4 (selL 4 ls102_4 rest) s (p.1) (p.2.1) (p.2.2)) (fun _ _ => rfl)
noncomputable def rn102_10_0 (a b c : Int) (e : Tk) (d : LL) : Int := intOf ((d.getD b.toNat []).getD (0 + 1) AV.junk)
noncomputable def rn102_10_1 (a b c : Int) (e : Tk) (d : LL) : Int := intOf ((d.getD a.toNat []).getD (0 + 1) AV.junk)
noncomputable def go102_10 (a b c : Int) (e : Tk) (d : LL) : Bool := bif decide (b < (↑d.length : Int)) then bif decide (a < 0) then true else bif decide (0 ≤ b) && decide (b < (↑d.length : Int)) then decide (0 ≤ a) && decide (a < (↑d.length : Int)) else false else false
noncomputable def nx102_10_0 (a b c : Int) (e : Tk) (d : LL) : Int := bif bif decide (a < 0) then true else bif decide (0 ≤ b) && decide (b < (↑d.length : Int)) then bif decide (0 ≤ a) && decide (a < (↑d.length : Int)) then decide (rn102_10_0 a b c e d < rn102_10_1 a b c e d) else false else false then b else a
noncomputable def nx102_10_1 (a b c : Int) (e : Tk) (d : LL) : Int := IntKind.i64.wrap (b + 1)
noncomputable def xc102_10_0 (a b c : Int) (e : Tk) (d : LL) : Bool := bif decide (b < (↑d.length : Int)) then false else true
theorem rd102_10 (rest : Lsp) (a b c : Int) (e : Tk) (d : LL) : rV k98l (selL 4 ls102_4 rest) 102 0 Try.f102 10 [1, 4, 5] [0] [4] [] [AV.hp 0 0, iA a, iA b] [Blk.var [iA c, AV.sl e kI4 d]] = bif go102_10 a b c e d then some (Ex.norm, [AV.hp 0 0, iA (nx102_10_0 a b c e d), iA (nx102_10_1 a b c e d)], [Blk.var [iA c, AV.sl e kI4 d]]) else bif xc102_10_0 a b c e d then some (Ex.exit 2, [iA a], []) else none := by
 refine Eq.trans (b := bif decide (b < (↑d.length : Int)) then bif bif decide (a < 0) then true else bif decide (0 ≤ b) && decide (b < (↑d.length : Int)) then bif decide (0 ≤ a) && decide (a < (↑d.length : Int)) then true else false else false then bif bif decide (a < 0) then true else bif decide (0 ≤ b) && decide (b < (↑d.length : Int)) then bif decide (0 ≤ a) && decide (a < (↑d.length : Int)) then bif false then true else decide (rn102_10_0 a b c e d < rn102_10_1 a b c e d) else false else false then some (Ex.norm, [AV.hp 0 0, iA b, iA (IntKind.i64.wrap (b + 1))], [Blk.var [iA c, AV.sl e kI4 d]]) else some (Ex.norm, [AV.hp 0 0, iA a, iA (IntKind.i64.wrap (b + 1))], [Blk.var [iA c, AV.sl e kI4 d]]) else none else some (Ex.exit 2, [iA a], [])) (by kernel_rfl) ?_
 unfold go102_10 nx102_10_0 nx102_10_1 xc102_10_0
 generalize (decide (0 ≤ a) && decide (a < (↑d.length : Int))) = c0
 generalize (decide (0 ≤ b) && decide (b < (↑d.length : Int))) = c1
 generalize (decide (rn102_10_0 a b c e d < rn102_10_1 a b c e d)) = c2
 generalize (decide (b < (↑d.length : Int))) = c3
 generalize (decide (a < 0)) = c4
 cases c3; rfl; cases c4; cases c1; rfl; cases c0; rfl; cases c2; rfl; rfl; rfl
abbrev pl102_10 : Type := Int × Tk × LL
abbrev sl102_10 : Type := Int × Int
noncomputable def vt102_10 (a : pl102_10 × sl102_10) : List AV := [AV.hp 0 0, iA a.2.1, iA a.2.2]
noncomputable def vc102_10 (a : pl102_10 × sl102_10) : List Blk := [Blk.var [iA a.1.1, AV.sl a.1.2.1 kI4 a.1.2.2]]
noncomputable def de102_10 (vt : List AV) (vc : List Blk) : Option (pl102_10 × sl102_10) :=
 match vt with
 | [qa0, qa1, qa2] => (match vc with
 | [qb0] => (match qa0 with
 | AV.hp (0) (0) => (match qa1 with
 | .int .i64 t4 => (match qa2 with
 | .int .i64 t5 => (match qb0 with
 | .var [.int .i64 b0_0, .sl b0_1k [.int .i64, .int .i64, .int .i64, .int .i64] b0_1] => (some ((b0_0, b0_1k, b0_1), (t4, t5)))
 | _ => none)
 | _ => none)
 | _ => none)
 | _ => none)
 | _ => none)
 | _ => none
theorem de102_10_ok (vt : List AV) (vc : List Blk) (a : pl102_10 × sl102_10) (h : de102_10 vt vc = some a) : vt = vt102_10 a ∧ vc = vc102_10 a := by
 unfold de102_10 at h
 iterate 6 (split at h; rotate_left; · cases h)
 injection h with h; subst h; exact ⟨rfl, rfl⟩
noncomputable def g102_10 (p : pl102_10) (s : sl102_10) : Bool := go102_10 s.1 s.2 p.1 p.2.1 p.2.2
noncomputable def n102_10 (p : pl102_10) (s : sl102_10) : sl102_10 := (nx102_10_0 s.1 s.2 p.1 p.2.1 p.2.2, nx102_10_1 s.1 s.2 p.1 p.2.1 p.2.2)
noncomputable def y102_10 (p : pl102_10) (s : sl102_10) : List (Bool × Out) := []
noncomputable def z102_10 (p : pl102_10) (s : sl102_10) : Bool := xc102_10_0 s.1 s.2 p.1 p.2.1 p.2.2
noncomputable def d102_10 (p : pl102_10) (s : sl102_10) : Out := (Ex.exit 2, [iA s.1], [])
noncomputable def ls102_10 := lspOf [1, 4, 5] [0] [4] [] Try.f102.ntmps (0 + tab.nid 102) de102_10 (spI g102_10 n102_10 y102_10 z102_10 d102_10)
theorem lo102_10 (rest : Lsp) : lO k98l (selL 4 ls102_4 (selL 10 ls102_10 rest)) 102 0 Try.f102 10 := LoopOK1.iter (i := 10) (by kernel_rfl) [1, 4, 5] [0] [4] [] vt102_10 vc102_10 de102_10 g102_10 n102_10 y102_10 z102_10 d102_10 (fun _ => rfl) de102_10_ok (fun p s => rd102_10 (selL 10 ls102_10 rest) (s.1) (s.2) (p.1) (p.2.1) (p.2.2)) (fun _ _ => rfl)
noncomputable def lsp102 : Lsp := (selL 4 ls102_4 (selL 10 ls102_10 noLsp))
theorem loops102 : ∀ c, Try.f102.body = some c → lsO k98l lsp102 102 0 Try.f102 c := loops_of [4, 10] (by kernel_rfl) (by kernel_rfl) (fun i hi => by
 simp only [List.mem_cons, List.not_mem_nil, or_false] at hi
 rcases hi with rfl | rfl
 ·exact lo102_4 (selL 10 ls102_10 noLsp)
 ·exact lo102_10 noLsp)
noncomputable def rev102_0 (l : Int) (tk : Tk) (es : LL) : sl102_4 := finL (g102_4 (l, tk, es)) (n102_4 (l, tk, es)) 0
noncomputable def rev102_1 (l : Int) (tk : Tk) (es : LL) : sl102_10 := finL (g102_10 (l, tk, es)) (n102_10 (l, tk, es)) ((-1), 0)
noncomputable def vev102_0 (l : Int) (tk : Tk) (es : LL) : Int := bif vev88_0 l tk es != 0 then (-1) else bif xc102_4_0 (rev102_0 l tk es) l tk es then rev102_0 l tk es else (rev102_1 l tk es).fst
noncomputable def vev102_1 (l : Int) (tk : Tk) (es : LL) : Bool := bif vev88_1 l tk es then bif vev88_0 l tk es != 0 then true else bif (spI g102_4 n102_4 y102_4 z102_4 d102_4 ((l, tk, es), 0)).fst then bif xc102_4_0 (rev102_0 l tk es) l tk es then true else bif (spI g102_10 n102_10 y102_10 z102_10 d102_10 ((l, tk, es), (-1), 0)).fst then true else false else false else false
theorem ev102 (l : Int) (tk : Tk) (es : LL) : eF k98l lsp102 102 Try.f102 [.agg [iA l, .sl tk kI4 es]] [] = bif vev102_1 l tk es then some (true, iA (vev102_0 l tk es), []) else none := by
 refine Eq.trans (b := bif vev88_1 l tk es then bif vev88_0 l tk es != 0 then some (true, iA (-1), []) else bif (spI g102_4 n102_4 y102_4 z102_4 d102_4 ((l, tk, es), 0)).fst then bif xc102_4_0 (rev102_0 l tk es) l tk es then some (true, iA (rev102_0 l tk es), []) else bif (spI g102_10 n102_10 y102_10 z102_10 d102_10 ((l, tk, es), (-1), 0)).fst then some (true, iA (rev102_1 l tk es).fst, []) else none else none else none) (by kernel_rfl) ?_
 unfold vev102_0 vev102_1
 generalize (spI g102_10 _ _ _ _ _).fst = c0
 generalize (spI g102_4 _ _ _ _ _).fst = c1
 generalize (vev88_0 l tk es != 0) = c2
 generalize (xc102_4_0 _ _ _ _) = c3
 generalize (vev88_1 _ _ _) = c4
 cases c4; rfl; cases c2; cases c1; rfl; cases c3; cases c0; rfl; rfl; rfl; rfl
noncomputable def sp102 : Sp
 | [.agg [.int .i64 l, .sl tk [.int .i64, .int .i64, .int .i64, .int .i64] es]], [] => spW (vev102_1 l tk es) (some ((true, iA (vev102_0 l tk es), [])))
 | _, _ => none
noncomputable def k102 : Gam := spG 102 sp102 k98l
theorem k102_ok : GamOK Try.prog k102 := spG_ok k98l_ok fun T C r outs hs => by
   unfold sp102 at hs
   split at hs
   ·exact okE k98l_ok Try.func102 loops102 (ev102 _ _ _) hs
   ·cases hs
noncomputable def rn70_7_0 (b c d e : Int) (f : LL) (g h i j k : Int) (a : LL) : Int := IntKind.i64.wrap (intOf ((a.getD d.toNat []).getD (0 + 1 + 1 + 1) AV.junk) + 1)
noncomputable def go70_7 (b c d e : Int) (f : LL) (g h i j k : Int) (a : LL) : Bool := bif decide (d < c) then decide (0 ≤ d) && decide (d < (↑a.length : Int)) else false
noncomputable def nx70_7_2 (b c d e : Int) (f : LL) (g h i j k : Int) (a : LL) : Int := IntKind.i64.wrap (d + 1)
noncomputable def nx70_7_10 (b c d e : Int) (f : LL) (g h i j k : Int) (a : LL) : LL := a.set d.toNat [iA (intOf ((a.getD d.toNat []).getD 0 AV.junk)), iA (intOf ((a.getD d.toNat []).getD (0 + 1) AV.junk)), iA (intOf ((a.getD d.toNat []).getD (0 + 1 + 1) AV.junk)), iA (if if false = true then 2000 < rn70_7_0 b c d e f g h i j k a else rn70_7_0 b c d e f g h i j k a < 2000 then rn70_7_0 b c d e f g h i j k a else 2000)]
noncomputable def xc70_7_0 (b c d e : Int) (f : LL) (g h i j k : Int) (a : LL) : Bool := bif decide (d < c) then false else true
theorem rd70_7 (rest : Lsp) (b c d e : Int) (f : LL) (g i j k l : Int) (a : LL) : rV k102 rest 70 0 Try.f70 7 [1, 2, 4, 5, 7, 8, 9] [2, 3, 4, 5, 6] [1, 2, 4, 5, 7, 8] [2, 3, 4, 5, 6] [iA b, AV.hp 3 0, AV.hp 4 0, AV.hp 5 0, iA c, AV.rf 6 kI4, iA d] [Blk.dead, Blk.var [iA e, AV.sl Tk.imm kI4 f], Blk.var [iA g, AV.nil], Blk.var [iA i, iA j, iA k, iA l], Blk.row kI4 a] = bif go70_7 b c d e f g i j k l a then some (Ex.norm, [iA b, AV.hp 3 0, AV.hp 4 0, AV.hp 5 0, iA c, AV.rf 6 kI4, iA (nx70_7_2 b c d e f g i j k l a)], [Blk.dead, Blk.var [iA e, AV.sl Tk.imm kI4 f], Blk.var [iA g, AV.nil], Blk.var [iA i, iA j, iA k, iA l], Blk.row kI4 (nx70_7_10 b c d e f g i j k l a)]) else bif xc70_7_0 b c d e f g i j k l a then some (Ex.exit 0, [iA b, AV.hp 3 0, AV.hp 4 0, AV.hp 5 0, iA c, AV.rf 6 kI4], [Blk.dead, Blk.var [iA e, AV.sl Tk.imm kI4 f], Blk.var [iA g, AV.nil], Blk.var [iA i, iA j, iA k, iA l], Blk.row kI4 a]) else none := by
 refine Eq.trans (b := bif decide (d < c) then bif decide (0 ≤ d) && decide (d < (↑a.length : Int)) then bif decide (0 ≤ d) && decide (d < (↑a.length : Int)) then some (Ex.norm, [iA b, AV.hp 3 0, AV.hp 4 0, AV.hp 5 0, iA c, AV.rf 6 kI4, iA (IntKind.i64.wrap (d + 1))], [Blk.dead, Blk.var [iA e, AV.sl Tk.imm kI4 f], Blk.var [iA g, AV.nil], Blk.var [iA i, iA j, iA k, iA l], Blk.row kI4 (a.set d.toNat [iA (intOf ((a.getD d.toNat []).getD 0 AV.junk)), iA (intOf ((a.getD d.toNat []).getD (0 + 1) AV.junk)), iA (intOf ((a.getD d.toNat []).getD (0 + 1 + 1) AV.junk)), iA (if if false = true then 2000 < rn70_7_0 b c d e f g i j k l a else rn70_7_0 b c d e f g i j k l a < 2000 then rn70_7_0 b c d e f g i j k l a else 2000)])]) else none else none else some (Ex.exit 0, [iA b, AV.hp 3 0, AV.hp 4 0, AV.hp 5 0, iA c, AV.rf 6 kI4], [Blk.dead, Blk.var [iA e, AV.sl Tk.imm kI4 f], Blk.var [iA g, AV.nil], Blk.var [iA i, iA j, iA k, iA l], Blk.row kI4 a])) (by kernel_rfl) ?_
 unfold go70_7 nx70_7_2 nx70_7_10 xc70_7_0
 generalize (decide (0 ≤ d) && decide (d < (↑a.length : Int))) = c0
 generalize (decide (d < c)) = c1
 cases c1; rfl; cases c0; rfl; rfl
abbrev pl70_7 : Type := Int × Int × Int × LL × Int × Int × Int × Int × Int
abbrev sl70_7 : Type := Int × LL
noncomputable def vt70_7 (a : pl70_7 × sl70_7) : List AV := [iA a.1.1, AV.hp 3 0, AV.hp 4 0, AV.hp 5 0, iA a.1.2.1, AV.rf 6 kI4, iA a.2.1]
noncomputable def vc70_7 (a : pl70_7 × sl70_7) : List Blk := [Blk.dead, Blk.var [iA a.1.2.2.1, AV.sl Tk.imm kI4 a.1.2.2.2.1], Blk.var [iA a.1.2.2.2.2.1, AV.nil], Blk.var [iA a.1.2.2.2.2.2.1, iA a.1.2.2.2.2.2.2.1, iA a.1.2.2.2.2.2.2.2.1, iA a.1.2.2.2.2.2.2.2.2], Blk.row kI4 a.2.2]
noncomputable def de70_7 (vt : List AV) (vc : List Blk) : Option (pl70_7 × sl70_7) :=
 match vt with
 | [qa0, qa1, qa2, qa3, qa4, qa5, qa6] => (match vc with
 | [qb0, qb1, qb2, qb3, qb4] => (match qa0 with
 | .int .i64 t1 => (match qa1 with
 | AV.hp (3) (0) => (match qa2 with
 | AV.hp (4) (0) => (match qa3 with
 | AV.hp (5) (0) => (match qa4 with
 | .int .i64 t7 => (match qa5 with
 | AV.rf (6) [.int .i64, .int .i64, .int .i64, .int .i64] => (match qa6 with
 | .int .i64 t9 => (match qb0 with
 | Blk.dead => (match qb1 with
 | .var [.int .i64 b3_0, .sl Tk.imm [.int .i64, .int .i64, .int .i64, .int .i64] b3_1] => (match qb2 with
 | .var [.int .i64 b4_0, AV.nil] => (match qb3 with
 | .var [.int .i64 b5_0, .int .i64 b5_1, .int .i64 b5_2, .int .i64 b5_3] => (match qb4 with
 | .row [.int .i64, .int .i64, .int .i64, .int .i64] b6 => (some ((t1, t7, b3_0, b3_1, b4_0, b5_0, b5_1, b5_2, b5_3), (t9, b6)))
 | _ => none)
 | _ => none)
 | _ => none)
 | _ => none)
 | _ => none)
 | _ => none)
 | _ => none)
 | _ => none)
 | _ => none)
 | _ => none)
 | _ => none)
 | _ => none)
 | _ => none)
 | _ => none
theorem de70_7_ok (vt : List AV) (vc : List Blk) (a : pl70_7 × sl70_7) (h : de70_7 vt vc = some a) : vt = vt70_7 a ∧ vc = vc70_7 a := by
 unfold de70_7 at h
 iterate 14 (split at h; rotate_left; · cases h)
 injection h with h; subst h; exact ⟨rfl, rfl⟩
noncomputable def g70_7 (p : pl70_7) (s : sl70_7) : Bool := go70_7 p.1 p.2.1 s.1 p.2.2.1 p.2.2.2.1 p.2.2.2.2.1 p.2.2.2.2.2.1 p.2.2.2.2.2.2.1 p.2.2.2.2.2.2.2.1 p.2.2.2.2.2.2.2.2 s.2
noncomputable def n70_7 (p : pl70_7) (s : sl70_7) : sl70_7 := (nx70_7_2 p.1 p.2.1 s.1 p.2.2.1 p.2.2.2.1 p.2.2.2.2.1 p.2.2.2.2.2.1 p.2.2.2.2.2.2.1 p.2.2.2.2.2.2.2.1 p.2.2.2.2.2.2.2.2 s.2, nx70_7_10 p.1 p.2.1 s.1 p.2.2.1 p.2.2.2.1 p.2.2.2.2.1 p.2.2.2.2.2.1 p.2.2.2.2.2.2.1 p.2.2.2.2.2.2.2.1 p.2.2.2.2.2.2.2.2 s.2)
noncomputable def y70_7 (p : pl70_7) (s : sl70_7) : List (Bool × Out) := []
noncomputable def z70_7 (p : pl70_7) (s : sl70_7) : Bool := xc70_7_0 p.1 p.2.1 s.1 p.2.2.1 p.2.2.2.1 p.2.2.2.2.1 p.2.2.2.2.2.1 p.2.2.2.2.2.2.1 p.2.2.2.2.2.2.2.1 p.2.2.2.2.2.2.2.2 s.2
noncomputable def d70_7 (p : pl70_7) (s : sl70_7) : Out := (Ex.exit 0, [iA p.1, AV.hp 3 0, AV.hp 4 0, AV.hp 5 0, iA p.2.1, AV.rf 6 kI4], [Blk.dead, Blk.var [iA p.2.2.1, AV.sl Tk.imm kI4 p.2.2.2.1], Blk.var [iA p.2.2.2.2.1, AV.nil], Blk.var [iA p.2.2.2.2.2.1, iA p.2.2.2.2.2.2.1, iA p.2.2.2.2.2.2.2.1, iA p.2.2.2.2.2.2.2.2], Blk.row kI4 s.2])
noncomputable def ls70_7 := lspOf [1, 2, 4, 5, 7, 8, 9] [2, 3, 4, 5, 6] [1, 2, 4, 5, 7, 8] [2, 3, 4, 5, 6] Try.f70.ntmps (0 + tab.nid 70) de70_7 (spI g70_7 n70_7 y70_7 z70_7 d70_7)
theorem lo70_7 (rest : Lsp) : lO k102 (selL 7 ls70_7 rest) 70 0 Try.f70 7 := LoopOK1.iter (i := 7) (by kernel_rfl) [1, 2, 4, 5, 7, 8, 9] [2, 3, 4, 5, 6] [1, 2, 4, 5, 7, 8] [2, 3, 4, 5, 6] vt70_7 vc70_7 de70_7 g70_7 n70_7 y70_7 z70_7 d70_7 (fun _ => rfl) de70_7_ok (fun p s => rd70_7 (selL 7 ls70_7 rest) (p.1) (p.2.1) (s.1) (p.2.2.1) (p.2.2.2.1) (p.2.2.2.2.1) (p.2.2.2.2.2.1) (p.2.2.2.2.2.2.1) (p.2.2.2.2.2.2.2.1) (p.2.2.2.2.2.2.2.2) (s.2)) (fun _ _ => rfl)
noncomputable def lsp70 : Lsp := (selL 7 ls70_7 noLsp)
theorem loops70 : ∀ c, Try.f70.body = some c → lsO k102 lsp70 70 0 Try.f70 c := loops_of [7] (by kernel_rfl) (by kernel_rfl) (fun i hi => by simp only [List.mem_cons, List.not_mem_nil, or_false] at hi; subst hi; exact lo70_7 noLsp)
noncomputable def rev70_0 (l : Int) (es : LL) (quantum : Int) : sl70_7 := finL (g70_7 (quantum, vev102_0 l Tk.imm es, l, es, 0, 0, 0, 0, 0)) (n70_7 (quantum, vev102_0 l Tk.imm es, l, es, 0, 0, 0, 0, 0)) (0, es)
noncomputable def rev70_1 (l : Int) (es : LL) (quantum : Int) : LL := (rev70_0 l es quantum).snd
noncomputable def rev70_2 (l : Int) (es : LL) (quantum : Int) : Int := (↑(rev70_1 l es quantum).length : Int)
noncomputable def rev70_3 (l : Int) (es : LL) (quantum : Int) : Int := intOf (((rev70_1 l es quantum).getD (vev102_0 l Tk.imm es).toNat []).getD (0 + 1 + 1) AV.junk)
noncomputable def rev70_4 (l : Int) (es : LL) (quantum : Int) : Int := if if false = true then quantum < rev70_3 l es quantum else rev70_3 l es quantum < quantum then rev70_3 l es quantum else quantum
noncomputable def rev70_5 (l : Int) (es : LL) (quantum : Int) : LL := (rev70_1 l es quantum).set (vev102_0 l Tk.imm es).toNat [iA (intOf (((rev70_1 l es quantum).getD (vev102_0 l Tk.imm es).toNat []).getD 0 AV.junk)), iA (intOf (((rev70_1 l es quantum).getD (vev102_0 l Tk.imm es).toNat []).getD (0 + 1) AV.junk)), iA (IntKind.i64.wrap (rev70_3 l es quantum - rev70_4 l es quantum)), iA (intOf (((rev70_1 l es quantum).getD (vev102_0 l Tk.imm es).toNat []).getD (0 + 1 + 1 + 1) AV.junk))]
noncomputable def rev70_6 (l : Int) (es : LL) (quantum : Int) : Int := (↑(rev70_5 l es quantum).length : Int)
noncomputable def rev70_7 (l : Int) (es : LL) (quantum : Int) : Int := intOf (((rev70_5 l es quantum).getD (vev102_0 l Tk.imm es).toNat []).getD (0 + 1 + 1) AV.junk)
noncomputable def vev70_0 (l : Int) (es : LL) (quantum : Int) : LL := bif bif decide (vev102_0 l Tk.imm es < 0) then true else decide (quantum < 1) then es else bif decide (rev70_7 l es quantum = 0) then vev98l_0 l (rev70_5 l es quantum) (vev102_0 l Tk.imm es) else rev70_5 l es quantum
noncomputable def vev70_1 (l : Int) (es : LL) (quantum : Int) : Int := bif bif decide (vev102_0 l Tk.imm es < 0) then true else decide (quantum < 1) then 0 else intOf (((rev70_5 l es quantum).getD (vev102_0 l Tk.imm es).toNat []).getD 0 AV.junk)
noncomputable def vev70_2 (l : Int) (es : LL) (quantum : Int) : Int := bif bif decide (vev102_0 l Tk.imm es < 0) then true else decide (quantum < 1) then 0 else intOf (((rev70_5 l es quantum).getD (vev102_0 l Tk.imm es).toNat []).getD (0 + 1) AV.junk)
noncomputable def vev70_3 (l : Int) (es : LL) (quantum : Int) : Int := bif bif decide (vev102_0 l Tk.imm es < 0) then true else decide (quantum < 1) then 0 else rev70_7 l es quantum
noncomputable def vev70_4 (l : Int) (es : LL) (quantum : Int) : Int := bif bif decide (vev102_0 l Tk.imm es < 0) then true else decide (quantum < 1) then 0 else intOf (((rev70_5 l es quantum).getD (vev102_0 l Tk.imm es).toNat []).getD (0 + 1 + 1 + 1) AV.junk)
noncomputable def vev70_5 (l : Int) (es : LL) (quantum : Int) : Int := bif bif decide (vev102_0 l Tk.imm es < 0) then true else decide (quantum < 1) then 0 else rev70_4 l es quantum
noncomputable def vev70_6 (l : Int) (es : LL) (quantum : Int) : Bool := bif vev102_1 l Tk.imm es then bif bif decide (vev102_0 l Tk.imm es < 0) then true else decide (quantum < 1) then true else bif bif decide (es.length * 32 ≤ 140737488355328) then decide (es.length ≤ 9223372036854775807) else false then bif (spI g70_7 n70_7 y70_7 z70_7 d70_7 ((quantum, vev102_0 l Tk.imm es, l, es, 0, 0, 0, 0, 0), 0, es)).fst then bif decide (0 ≤ vev102_0 l Tk.imm es) && decide (vev102_0 l Tk.imm es < rev70_2 l es quantum) then bif bif decide (0 ≤ vev102_0 l Tk.imm es) then decide (vev102_0 l Tk.imm es < rev70_6 l es quantum) else false then bif decide (rev70_7 l es quantum = 0) then bif vev98l_1 l (rev70_5 l es quantum) (vev102_0 l Tk.imm es) then true else false else true else false else false else false else false else false
theorem ev70 (l : Int) (es : LL) (quantum : Int) : eF k102 lsp70 70 Try.f70 [.agg [iA l, .sl .imm kI4 es], iA quantum] [] = bif vev70_6 l es quantum then some (true, AV.tup [AV.agg [iA l, AV.sl Tk.imm kI4 (vev70_0 l es quantum)], AV.agg [iA (vev70_1 l es quantum), iA (vev70_2 l es quantum), iA (vev70_3 l es quantum), iA (vev70_4 l es quantum)], iA (vev70_5 l es quantum)], []) else none := by
 refine Eq.trans (b := bif vev102_1 l Tk.imm es then bif bif decide (vev102_0 l Tk.imm es < 0) then true else true then bif bif decide (vev102_0 l Tk.imm es < 0) then true else bif false then true else decide (quantum < 1) then some (true, AV.tup [AV.agg [iA l, AV.sl Tk.imm kI4 es], AV.agg [iA 0, iA 0, iA 0, iA 0], iA 0], []) else bif bif decide (es.length * 32 ≤ 140737488355328) then decide (es.length ≤ 9223372036854775807) else false then bif (spI g70_7 n70_7 y70_7 z70_7 d70_7 ((quantum, vev102_0 l Tk.imm es, l, es, 0, 0, 0, 0, 0), 0, es)).fst then bif decide (0 ≤ vev102_0 l Tk.imm es) && decide (vev102_0 l Tk.imm es < rev70_2 l es quantum) then bif decide (0 ≤ vev102_0 l Tk.imm es) && decide (vev102_0 l Tk.imm es < rev70_2 l es quantum) then bif decide (0 ≤ vev102_0 l Tk.imm es) && decide (vev102_0 l Tk.imm es < rev70_2 l es quantum) then bif bif decide (0 ≤ vev102_0 l Tk.imm es) then decide (vev102_0 l Tk.imm es < rev70_6 l es quantum) else false then bif decide (rev70_7 l es quantum = 0) then bif vev98l_1 l (rev70_5 l es quantum) (vev102_0 l Tk.imm es) then some (true, AV.tup [AV.agg [iA l, AV.sl Tk.imm kI4 (vev98l_0 l (rev70_5 l es quantum) (vev102_0 l Tk.imm es))], AV.agg [iA (intOf (((rev70_5 l es quantum).getD (vev102_0 l Tk.imm es).toNat []).getD 0 AV.junk)), iA (intOf (((rev70_5 l es quantum).getD (vev102_0 l Tk.imm es).toNat []).getD (0 + 1) AV.junk)), iA (rev70_7 l es quantum), iA (intOf (((rev70_5 l es quantum).getD (vev102_0 l Tk.imm es).toNat []).getD (0 + 1 + 1 + 1) AV.junk))], iA (rev70_4 l es quantum)], []) else none else some (true, AV.tup [AV.agg [iA l, AV.sl Tk.imm kI4 (rev70_5 l es quantum)], AV.agg [iA (intOf (((rev70_5 l es quantum).getD (vev102_0 l Tk.imm es).toNat []).getD 0 AV.junk)), iA (intOf (((rev70_5 l es quantum).getD (vev102_0 l Tk.imm es).toNat []).getD (0 + 1) AV.junk)), iA (rev70_7 l es quantum), iA (intOf (((rev70_5 l es quantum).getD (vev102_0 l Tk.imm es).toNat []).getD (0 + 1 + 1 + 1) AV.junk))], iA (rev70_4 l es quantum)], []) else none else none else none else none else none else none else none else none) (by kernel_rfl) ?_
 unfold vev70_0 vev70_1 vev70_2 vev70_3 vev70_4 vev70_5 vev70_6
 generalize (spI g70_7 _ _ _ _ _).fst = c0
 generalize (decide (es.length * 32 ≤ 140737488355328)) = c1
 generalize (decide (0 ≤ vev102_0 l Tk.imm es) && decide (vev102_0 l Tk.imm es < rev70_2 l es quantum)) = c2
 generalize (decide (es.length ≤ 9223372036854775807)) = c3
 generalize (decide (vev102_0 l Tk.imm es < 0)) = c4
 generalize (decide (0 ≤ vev102_0 l Tk.imm es)) = c5
 generalize (decide (rev70_7 l es quantum = 0)) = c6
 generalize (decide (vev102_0 l Tk.imm es < rev70_6 l es quantum)) = c7
 generalize (decide (quantum < 1)) = c8
 generalize (vev98l_1 _ _ _) = c9
 generalize (vev102_1 _ _ _) = c10
 cases c10; rfl; cases c4; cases c8; cases c1; rfl; cases c3; rfl; cases c0; rfl; cases c2; rfl; cases c5; rfl; cases c7; rfl; cases c6; rfl
 cases c9; rfl; rfl; rfl; rfl
noncomputable def sp70 : Sp
 | [.agg [.int .i64 l, .sl .imm [.int .i64, .int .i64, .int .i64, .int .i64] es], .int .i64 quantum], [] => spW (vev70_6 l es quantum) (some ((true, AV.tup [AV.agg [iA l, AV.sl Tk.imm kI4 (vev70_0 l es quantum)], AV.agg [iA (vev70_1 l es quantum), iA (vev70_2 l es quantum), iA (vev70_3 l es quantum), iA (vev70_4 l es quantum)], iA (vev70_5 l es quantum)], [])))
 | _, _ => none
noncomputable def k70 : Gam := spG 70 sp70 k102
theorem k70_ok : GamOK Try.prog k70 := spG_ok k102_ok fun T C r outs hs => by
   unfold sp70 at hs
   split at hs
   ·exact okE k102_ok Try.func70 loops70 (ev70 _ _ _) hs
   ·cases hs
end Go.Proofs.Gv
