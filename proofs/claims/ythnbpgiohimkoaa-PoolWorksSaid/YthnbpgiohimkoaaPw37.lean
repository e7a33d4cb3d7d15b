import Derived.Test.YthnbpgiohimkoaaPw32
import Derived.Test.YthnbpgiohimkoaaPw35
import Derived.Test.YthnbpgiohimkoaaPw27
import Derived.KernelRfl
import Derived.Test.YthnbpgiohimkoaaPw30
import Derived.Test.YthnbpgiohimkoaaPw31
import Derived.Test.YthnbpgiohimkoaaPw36
set_option linter.unusedVariables false
namespace Go.Proofs.Gv
open Go.Proofs
noncomputable def vev119_0 (a b c d : Int) : Bool := bif decide (a < c) then true else bif a == c then bif false then true else bif true then decide (b < d) else false else bif false then true else false
theorem ev119 (a b c d : Int) : eF k70 noLsp 119 Try.f119 [.agg [iA a, iA b], .agg [iA c, iA d]] [] = bif true then some (true, AV.bool (vev119_0 a b c d), []) else none := by
 refine Eq.trans (b := bif bif decide (a < c) then true else bif a == c then true else true then some (true, AV.bool (bif decide (a < c) then true else bif a == c then bif false then true else bif true then decide (b < d) else false else bif false then true else false), []) else none) (by kernel_rfl) ?_
 unfold vev119_0
 generalize (decide (a < c)) = c0
 generalize (a == c) = c1
 cases c0; cases c1; rfl; rfl; rfl
noncomputable def sp119 : Sp
 | [.agg [.int .i64 a, .int .i64 b], .agg [.int .i64 c, .int .i64 d]], [] => spW (true) (some ((true, AV.bool (vev119_0 a b c d), [])))
 | _, _ => none
noncomputable def k119 : Gam := spG 119 sp119 k70
theorem k119_ok : GamOK Try.prog k119 := spG_ok k70_ok fun T C r outs hs => by
   unfold sp119 at hs
   split at hs
   ·rename_i a b c d
    obtain ⟨hb, rfl, rfl⟩ := spT_inv hs
    have he := ev119 a b c d
    obtain ⟨r0, o0, h0, he⟩ := evFin_inv he
    obtain ⟨h1, h2⟩ := fn_ok mixed plain (gk_ok k70_ok 30) Try.func119 (fun c _ => LoopsOK.none (fun _ _ => rfl) c) h0
    exact ⟨h1, h2.fin he⟩
   ·cases hs
noncomputable def vev112_0 (tk : Tk) (es : LL) (i k : Int) : Bool := vev119_0 (intOf ((es.getD i.toNat []).getD 0 AV.junk)) (intOf ((es.getD i.toNat []).getD (0 + 1) AV.junk)) (intOf ((es.getD k.toNat []).getD 0 AV.junk)) (intOf ((es.getD k.toNat []).getD (0 + 1) AV.junk))
noncomputable def vev112_1 (tk : Tk) (es : LL) (i k : Int) : Bool := bif decide (0 ≤ i) && decide (i < (↑es.length : Int)) then bif decide (0 ≤ k) && decide (k < (↑es.length : Int)) then true else false else false
theorem ev112 (tk : Tk) (es : LL) (i k : Int) : eF k119 noLsp 112 Try.f112 [.sl tk kI2 es, iA i, iA k] [] = bif vev112_1 tk es i k then some (true, AV.bool (vev112_0 tk es i k), []) else none := by
 refine Eq.trans (b := bif decide (0 ≤ i) && decide (i < (↑es.length : Int)) then bif decide (0 ≤ k) && decide (k < (↑es.length : Int)) then some (true, AV.bool (vev119_0 (intOf ((es.getD i.toNat []).getD 0 AV.junk)) (intOf ((es.getD i.toNat []).getD (0 + 1) AV.junk)) (intOf ((es.getD k.toNat []).getD 0 AV.junk)) (intOf ((es.getD k.toNat []).getD (0 + 1) AV.junk))), []) else none else none) (by kernel_rfl) ?_
 unfold vev112_0 vev112_1
 generalize (decide (0 ≤ k) && decide (k < (↑es.length : Int))) = c0
 generalize (decide (0 ≤ i) && decide (i < (↑es.length : Int))) = c1
 cases c1; rfl; cases c0; rfl; rfl
noncomputable def sp112 : Sp
 | [.sl tk [.int .i64, .int .i64] es, .int .i64 i, .int .i64 k], [] => spW (vev112_1 tk es i k) (some ((true, AV.bool (vev112_0 tk es i k), [])))
 | _, _ => none
noncomputable def k112 : Gam := spG 112 sp112 k119
theorem k112_ok : GamOK Try.prog k112 := spG_ok k119_ok fun T C r outs hs => by
   unfold sp112 at hs
   split at hs
   ·exact okE k119_ok Try.func112 (fun c _ => LoopsOK.none (fun _ _ => rfl) c) (ev112 _ _ _ _) hs
   ·cases hs
noncomputable def rn87_0_0 (t1 : Int) (b0 : LL) : Int := IntKind.i64.wrap ((IntKind.i64.wrap (t1 - 1)).tdiv 2)
noncomputable def rn87_0_1 (t1 : Int) (b0 : LL) : Int := (↑(b0.set t1.toNat (over (fitRow kI2 (b0.getD t1.toNat [])) 0 (List.take 2 (List.drop 0 (fitRow kI2 (b0.getD (rn87_0_0 t1 b0).toNat [])))))).length : Int)
noncomputable def go87_0 (t1 : Int) (b0 : LL) : Bool := bif bif decide (t1 > 0) then vev112_1 Tk.lent b0 t1 (rn87_0_0 t1 b0) else true then bif bif decide (t1 > 0) then bif vev112_1 Tk.lent b0 t1 (rn87_0_0 t1 b0) then vev112_0 Tk.lent b0 t1 (rn87_0_0 t1 b0) else false else false then bif decide (0 ≤ rn87_0_0 t1 b0) && decide (rn87_0_0 t1 b0 < (↑b0.length : Int)) then bif decide (0 ≤ t1) && decide (t1 < (↑b0.length : Int)) then bif decide (0 ≤ rn87_0_0 t1 b0) then decide (rn87_0_0 t1 b0 < rn87_0_1 t1 b0) else false else false else false else false else false
noncomputable def nx87_0_1 (t1 : Int) (b0 : LL) : LL := (b0.set t1.toNat [iA (intOf ((b0.getD (rn87_0_0 t1 b0).toNat []).getD 0 AV.junk)), iA (intOf ((b0.getD (rn87_0_0 t1 b0).toNat []).getD (0 + 1) AV.junk))]).set (rn87_0_0 t1 b0).toNat [iA (intOf ((b0.getD t1.toNat []).getD 0 AV.junk)), iA (intOf ((b0.getD t1.toNat []).getD (0 + 1) AV.junk))]
noncomputable def xc87_0_0 (t1 : Int) (b0 : LL) : Bool := bif bif decide (t1 > 0) then vev112_1 Tk.lent b0 t1 (rn87_0_0 t1 b0) else true then bif bif decide (t1 > 0) then bif vev112_1 Tk.lent b0 t1 (rn87_0_0 t1 b0) then vev112_0 Tk.lent b0 t1 (rn87_0_0 t1 b0) else false else false then false else true else false
theorem rd87_0 (rest : Lsp) (t1 : Int) (b0 : LL) : rV k112 rest 87 1 j87 0 [0, 1] [0] [] [0] [AV.rf 0 kI2, iA t1] [Blk.row kI2 b0] = bif go87_0 t1 b0 then some (Ex.norm, [AV.rf 0 kI2, iA (rn87_0_0 t1 b0)], [Blk.row kI2 (nx87_0_1 t1 b0)]) else bif xc87_0_0 t1 b0 then some (Ex.exit 1048576, [], [Blk.row kI2 b0]) else none := by
 refine Eq.trans (b := bif bif decide (t1 > 0) then bif vev112_1 Tk.lent b0 t1 (rn87_0_0 t1 b0) then true else false else true then bif bif decide (t1 > 0) then bif vev112_1 Tk.lent b0 t1 (rn87_0_0 t1 b0) then bif true then vev112_0 Tk.lent b0 t1 (rn87_0_0 t1 b0) else false else false else false then bif decide (0 ≤ rn87_0_0 t1 b0) && decide (rn87_0_0 t1 b0 < (↑b0.length : Int)) then bif decide (0 ≤ t1) && decide (t1 < (↑b0.length : Int)) then bif decide (0 ≤ t1) && decide (t1 < (↑b0.length : Int)) then bif bif decide (0 ≤ rn87_0_0 t1 b0) then decide (rn87_0_0 t1 b0 < rn87_0_1 t1 b0) else false then some (Ex.norm, [AV.rf 0 kI2, iA (rn87_0_0 t1 b0)], [Blk.row kI2 ((b0.set t1.toNat [iA (intOf ((b0.getD (rn87_0_0 t1 b0).toNat []).getD 0 AV.junk)), iA (intOf ((b0.getD (rn87_0_0 t1 b0).toNat []).getD (0 + 1) AV.junk))]).set (rn87_0_0 t1 b0).toNat [iA (intOf ((b0.getD t1.toNat []).getD 0 AV.junk)), iA (intOf ((b0.getD t1.toNat []).getD (0 + 1) AV.junk))])]) else none else none else none else none else some (Ex.exit 1048576, [], [Blk.row kI2 b0]) else none) (by kernel_rfl) ?_
 unfold go87_0 nx87_0_1 xc87_0_0
 generalize (decide (0 ≤ rn87_0_0 t1 b0) && decide (rn87_0_0 t1 b0 < (↑b0.length : Int))) = c0
 generalize (decide (0 ≤ t1) && decide (t1 < (↑b0.length : Int))) = c1
 generalize (decide (0 ≤ rn87_0_0 t1 b0)) = c2
 generalize (decide (rn87_0_0 t1 b0 < rn87_0_1 t1 b0)) = c3
 generalize (decide (t1 > 0)) = c4
 generalize (vev112_1 _ _ _ _) = c5
 generalize (vev112_0 _ _ _ _) = c6
 cases c4; rfl; cases c5; rfl; cases c6; rfl; cases c0; rfl; cases c1; rfl; cases c2; rfl; cases c3; rfl; rfl
abbrev pl87_0 : Type := Unit
abbrev sl87_0 : Type := Int × LL
noncomputable def vt87_0 (a : pl87_0 × sl87_0) : List AV := [AV.rf 0 kI2, iA a.2.1]
noncomputable def vc87_0 (a : pl87_0 × sl87_0) : List Blk := [Blk.row kI2 a.2.2]
noncomputable def de87_0 (vt : List AV) (vc : List Blk) : Option (pl87_0 × sl87_0) :=
 match vt with
 | [qa0, qa1] => (match vc with
 | [qb0] => (match qa0 with
 | AV.rf (0) [.int .i64, .int .i64] => (match qa1 with
 | .int .i64 t1 => (match qb0 with
 | .row [.int .i64, .int .i64] b0 => (some ((), (t1, b0)))
 | _ => none)
 | _ => none)
 | _ => none)
 | _ => none)
 | _ => none
theorem de87_0_ok (vt : List AV) (vc : List Blk) (a : pl87_0 × sl87_0) (h : de87_0 vt vc = some a) : vt = vt87_0 a ∧ vc = vc87_0 a := by
 unfold de87_0 at h
 iterate 5 (split at h; rotate_left; · cases h)
 injection h with h; subst h; exact ⟨rfl, rfl⟩
noncomputable def g87_0 (p : pl87_0) (s : sl87_0) : Bool := go87_0 s.1 s.2
noncomputable def n87_0 (p : pl87_0) (s : sl87_0) : sl87_0 := (rn87_0_0 s.1 s.2, nx87_0_1 s.1 s.2)
noncomputable def y87_0 (p : pl87_0) (s : sl87_0) : List (Bool × Out) := []
noncomputable def z87_0 (p : pl87_0) (s : sl87_0) : Bool := xc87_0_0 s.1 s.2
noncomputable def d87_0 (p : pl87_0) (s : sl87_0) : Out := (Ex.exit 1048576, [], [Blk.row kI2 s.2])
noncomputable def ls87_0 := lspOf [0, 1] [0] [] [0] j87.ntmps (1 + tab.nid 87) de87_0 (spI g87_0 n87_0 y87_0 z87_0 d87_0)
theorem lo87_0 (rest : Lsp) : lO k112 (selL 0 ls87_0 rest) 87 1 j87 0 := LoopOK1.iter (i := 0) (by kernel_rfl) [0, 1] [0] [] [0] vt87_0 vc87_0 de87_0 g87_0 n87_0 y87_0 z87_0 d87_0 (fun _ => rfl) de87_0_ok (fun p s => rd87_0 (selL 0 ls87_0 rest) (s.1) (s.2)) (fun _ _ => rfl)
noncomputable def lsp87 : Lsp := (selL 0 ls87_0 noLsp)
theorem loops87 : ∀ c, j87.body = some c → lsO k112 lsp87 87 1 j87 c := loops_of [0] (by kernel_rfl) (by kernel_rfl) (fun i hi => by simp only [List.mem_cons, List.not_mem_nil, or_false] at hi; subst hi; exact lo87_0 noLsp)
noncomputable def rev87_0 (es : LL) (i : Int) : sl87_0 := finL (g87_0 ()) (n87_0 ()) (i, es)
noncomputable def vev87_0 (es : LL) (i : Int) : LL := (rev87_0 es i).snd
noncomputable def vev87_1 (es : LL) (i : Int) : Bool := bif (spI g87_0 n87_0 y87_0 z87_0 d87_0 ((), i, es)).fst then true else false
theorem ev87 (es : LL) (i : Int) : eF k112 lsp87 87 j87 [.rf 0 kI2, iA i] [.row kI2 es] = bif vev87_1 es i then some (true, AV.tup [], [Blk.row kI2 (vev87_0 es i)]) else none := by
 refine Eq.trans (b := bif (spI g87_0 n87_0 y87_0 z87_0 d87_0 ((), i, es)).fst then some (true, AV.tup [], [Blk.row kI2 (rev87_0 es i).snd]) else none) (by kernel_rfl) ?_
 unfold vev87_0 vev87_1
 generalize (spI g87_0 _ _ _ _ _).fst = c0
 cases c0
 ·skip
  rfl
 ·skip
  rfl
noncomputable def sp87 : Sp
 | [.rf 0 [.int .i64, .int .i64], .int .i64 i], [.row [.int .i64, .int .i64] es] => spW (vev87_1 es i) (some ((true, AV.tup [], [Blk.row kI2 (vev87_0 es i)])))
 | _, _ => none
noncomputable def k87 : Gam := spG 87 sp87 k112
theorem k87_ok : GamOK Try.prog k87 := spG_ok k112_ok fun T C r outs hs => by
   unfold sp87 at hs
   split at hs
   ·rename_i i es
    obtain ⟨hb, rfl, rfl⟩ := spT_inv hs
    have he := ev87 es i
    rw [hb, cond_true] at he
    obtain ⟨r0, o0, h0, he⟩ := evFin_inv he
    obtain ⟨h1, h2⟩ := fn_okJ mixed plain (gk_ok k112_ok 30) Try.func87 loops87 h0
    exact ⟨h1, h2.fin he⟩
   ·cases hs
noncomputable def rn87s_0_0 (t0i t0n t0c : Nat) (t1 : Int) (b0 : LL) : LL := List.take t0n (List.drop t0i b0)
noncomputable def rn87s_0_1 (t0i t0n t0c : Nat) (t1 : Int) (b0 : LL) : Int := IntKind.i64.wrap ((IntKind.i64.wrap (t1 - 1)).tdiv 2)
noncomputable def go87s_0 (t0i t0n t0c : Nat) (t1 : Int) (b0 : LL) : Bool := bif bif decide (t1 > 0) then vev112_1 Tk.lent (rn87s_0_0 t0i t0n t0c t1 b0) t1 (rn87s_0_1 t0i t0n t0c t1 b0) else true then bif bif decide (t1 > 0) then bif vev112_1 Tk.lent (rn87s_0_0 t0i t0n t0c t1 b0) t1 (rn87s_0_1 t0i t0n t0c t1 b0) then vev112_0 Tk.lent (rn87s_0_0 t0i t0n t0c t1 b0) t1 (rn87s_0_1 t0i t0n t0c t1 b0) else false else false then bif decide (0 ≤ rn87s_0_1 t0i t0n t0c t1 b0) && decide (rn87s_0_1 t0i t0n t0c t1 b0 < (↑t0n : Int)) then decide (0 ≤ t1) && decide (t1 < (↑t0n : Int)) else false else false else false
noncomputable def nx87s_0_4 (t0i t0n t0c : Nat) (t1 : Int) (b0 : LL) : LL := (b0.set (t1.toNat + t0i) [iA (intOf ((b0.getD ((rn87s_0_1 t0i t0n t0c t1 b0).toNat + t0i) []).getD 0 AV.junk)), iA (intOf ((b0.getD ((rn87s_0_1 t0i t0n t0c t1 b0).toNat + t0i) []).getD (0 + 1) AV.junk))]).set ((rn87s_0_1 t0i t0n t0c t1 b0).toNat + t0i) [iA (intOf ((b0.getD (t1.toNat + t0i) []).getD 0 AV.junk)), iA (intOf ((b0.getD (t1.toNat + t0i) []).getD (0 + 1) AV.junk))]
noncomputable def xc87s_0_0 (t0i t0n t0c : Nat) (t1 : Int) (b0 : LL) : Bool := bif bif decide (t1 > 0) then vev112_1 Tk.lent (rn87s_0_0 t0i t0n t0c t1 b0) t1 (rn87s_0_1 t0i t0n t0c t1 b0) else true then bif bif decide (t1 > 0) then bif vev112_1 Tk.lent (rn87s_0_0 t0i t0n t0c t1 b0) t1 (rn87s_0_1 t0i t0n t0c t1 b0) then vev112_0 Tk.lent (rn87s_0_0 t0i t0n t0c t1 b0) t1 (rn87s_0_1 t0i t0n t0c t1 b0) else false else false then false else true else false
theorem rd87s_0 (rest : Lsp) (t0i t0n t0c : Nat) (t1 : Int) (b0 : LL) : rV k87 rest 87 1 j87 0 [0, 1] [0] [] [0] [AV.rs 0 kI2 t0i t0n t0c, iA t1] [Blk.row kI2 b0] = bif go87s_0 t0i t0n t0c t1 b0 then some (Ex.norm, [AV.rs 0 kI2 t0i t0n t0c, iA (rn87s_0_1 t0i t0n t0c t1 b0)], [Blk.row kI2 (nx87s_0_4 t0i t0n t0c t1 b0)]) else bif xc87s_0_0 t0i t0n t0c t1 b0 then some (Ex.exit 1048576, [], [Blk.row kI2 b0]) else none := by
 refine Eq.trans (b := bif bif decide (t1 > 0) then bif vev112_1 Tk.lent (rn87s_0_0 t0i t0n t0c t1 b0) t1 (rn87s_0_1 t0i t0n t0c t1 b0) then true else false else true then bif bif decide (t1 > 0) then bif vev112_1 Tk.lent (rn87s_0_0 t0i t0n t0c t1 b0) t1 (rn87s_0_1 t0i t0n t0c t1 b0) then bif true then vev112_0 Tk.lent (rn87s_0_0 t0i t0n t0c t1 b0) t1 (rn87s_0_1 t0i t0n t0c t1 b0) else false else false else false then bif decide (0 ≤ rn87s_0_1 t0i t0n t0c t1 b0) && decide (rn87s_0_1 t0i t0n t0c t1 b0 < (↑t0n : Int)) then bif decide (0 ≤ t1) && decide (t1 < (↑t0n : Int)) then bif decide (0 ≤ t1) && decide (t1 < (↑t0n : Int)) then bif decide (0 ≤ rn87s_0_1 t0i t0n t0c t1 b0) && decide (rn87s_0_1 t0i t0n t0c t1 b0 < (↑t0n : Int)) then some (Ex.norm, [AV.rs 0 kI2 t0i t0n t0c, iA (rn87s_0_1 t0i t0n t0c t1 b0)], [Blk.row kI2 ((b0.set (t1.toNat + t0i) [iA (intOf ((b0.getD ((rn87s_0_1 t0i t0n t0c t1 b0).toNat + t0i) []).getD 0 AV.junk)), iA (intOf ((b0.getD ((rn87s_0_1 t0i t0n t0c t1 b0).toNat + t0i) []).getD (0 + 1) AV.junk))]).set ((rn87s_0_1 t0i t0n t0c t1 b0).toNat + t0i) [iA (intOf ((b0.getD (t1.toNat + t0i) []).getD 0 AV.junk)), iA (intOf ((b0.getD (t1.toNat + t0i) []).getD (0 + 1) AV.junk))])]) else none else none else none else none else some (Ex.exit 1048576, [], [Blk.row kI2 b0]) else none) (by kernel_rfl) ?_
 unfold go87s_0 nx87s_0_4 xc87s_0_0
 generalize (decide (0 ≤ rn87s_0_1 t0i t0n t0c t1 b0) && decide (rn87s_0_1 t0i t0n t0c t1 b0 < (↑t0n : Int))) = c0
 generalize (decide (0 ≤ t1) && decide (t1 < (↑t0n : Int))) = c1
 generalize (decide (t1 > 0)) = c2
 generalize (vev112_0 _ _ _ _) = c3
 generalize (vev112_1 _ _ _ _) = c4
 cases c2; rfl; cases c4; rfl; cases c3; rfl; cases c0; rfl; cases c1; rfl; rfl
abbrev pl87s_0 : Type := Nat × Nat × Nat
abbrev sl87s_0 : Type := Int × LL
noncomputable def vt87s_0 (a : pl87s_0 × sl87s_0) : List AV := [AV.rs 0 kI2 a.1.1 a.1.2.1 a.1.2.2, iA a.2.1]
noncomputable def vc87s_0 (a : pl87s_0 × sl87s_0) : List Blk := [Blk.row kI2 a.2.2]
noncomputable def de87s_0 (vt : List AV) (vc : List Blk) : Option (pl87s_0 × sl87s_0) :=
 match vt with
 | [qa0, qa1] => (match vc with
 | [qb0] => (match qa0 with
 | AV.rs (0) [.int .i64, .int .i64] t0i t0n t0c => (match qa1 with
 | .int .i64 t1 => (match qb0 with
 | .row [.int .i64, .int .i64] b0 => (some ((t0i, t0n, t0c), (t1, b0)))
 | _ => none)
 | _ => none)
 | _ => none)
 | _ => none)
 | _ => none
theorem de87s_0_ok (vt : List AV) (vc : List Blk) (a : pl87s_0 × sl87s_0) (h : de87s_0 vt vc = some a) : vt = vt87s_0 a ∧ vc = vc87s_0 a := by
 unfold de87s_0 at h
 iterate 5 (split at h; rotate_left; · cases h)
 injection h with h; subst h; exact ⟨rfl, rfl⟩
noncomputable def g87s_0 (p : pl87s_0) (s : sl87s_0) : Bool := go87s_0 p.1 p.2.1 p.2.2 s.1 s.2
noncomputable def n87s_0 (p : pl87s_0) (s : sl87s_0) : sl87s_0 := (rn87s_0_1 p.1 p.2.1 p.2.2 s.1 s.2, nx87s_0_4 p.1 p.2.1 p.2.2 s.1 s.2)
noncomputable def y87s_0 (p : pl87s_0) (s : sl87s_0) : List (Bool × Out) := []
noncomputable def z87s_0 (p : pl87s_0) (s : sl87s_0) : Bool := xc87s_0_0 p.1 p.2.1 p.2.2 s.1 s.2
noncomputable def d87s_0 (p : pl87s_0) (s : sl87s_0) : Out := (Ex.exit 1048576, [], [Blk.row kI2 s.2])
noncomputable def ls87s_0 := lspOf [0, 1] [0] [] [0] j87.ntmps (1 + tab.nid 87) de87s_0 (spI g87s_0 n87s_0 y87s_0 z87s_0 d87s_0)
theorem lo87s_0 (rest : Lsp) : lO k87 (selL 0 ls87s_0 rest) 87 1 j87 0 := LoopOK1.iter (i := 0) (by kernel_rfl) [0, 1] [0] [] [0] vt87s_0 vc87s_0 de87s_0 g87s_0 n87s_0 y87s_0 z87s_0 d87s_0 (fun _ => rfl) de87s_0_ok (fun p s => rd87s_0 (selL 0 ls87s_0 rest) (p.1) (p.2.1) (p.2.2) (s.1) (s.2)) (fun _ _ => rfl)
noncomputable def lsp87s : Lsp := (selL 0 ls87s_0 noLsp)
theorem loops87s : ∀ c, j87.body = some c → lsO k87 lsp87s 87 1 j87 c := loops_of [0] (by kernel_rfl) (by kernel_rfl) (fun i hi => by simp only [List.mem_cons, List.not_mem_nil, or_false] at hi; subst hi; exact lo87s_0 noLsp)
noncomputable def rev87s_0 (es : LL) (n cp : Nat) (i : Int) : sl87s_0 := finL (g87s_0 (0, n, cp)) (n87s_0 (0, n, cp)) (i, es)
noncomputable def vev87s_0 (es : LL) (n cp : Nat) (i : Int) : LL := (rev87s_0 es n cp i).snd
noncomputable def vev87s_1 (es : LL) (n cp : Nat) (i : Int) : Bool := bif (spI g87s_0 n87s_0 y87s_0 z87s_0 d87s_0 ((0, n, cp), i, es)).fst then true else false
theorem ev87s (es : LL) (n cp : Nat) (i : Int) : eF k87 lsp87s 87 j87 [.rs 0 kI2 0 n cp, iA i] [.row kI2 es] = bif vev87s_1 es n cp i then some (true, AV.tup [], [Blk.row kI2 (vev87s_0 es n cp i)]) else none := by
 refine Eq.trans (b := bif (spI g87s_0 n87s_0 y87s_0 z87s_0 d87s_0 ((0, n, cp), i, es)).fst then some (true, AV.tup [], [Blk.row kI2 (rev87s_0 es n cp i).snd]) else none) (by kernel_rfl) ?_
 unfold vev87s_0 vev87s_1
 generalize (spI g87s_0 _ _ _ _ _).fst = c0
 cases c0
 ·skip
  rfl
 ·skip
  rfl
noncomputable def sp87s : Sp
 | [.rs 0 [.int .i64, .int .i64] 0 n cp, .int .i64 i], [.row [.int .i64, .int .i64] es] => spW (vev87s_1 es n cp i) (some ((true, AV.tup [], [Blk.row kI2 (vev87s_0 es n cp i)])))
 | _, _ => none
noncomputable def k87s : Gam := spG 87 sp87s k87
theorem k87s_ok : GamOK Try.prog k87s := spG_ok k87_ok fun T C r outs hs => by
   unfold sp87s at hs
   split at hs
   ·rename_i n cp i es
    obtain ⟨hb, rfl, rfl⟩ := spT_inv hs
    have he := ev87s es n cp i
    rw [hb, cond_true] at he
    obtain ⟨r0, o0, h0, he⟩ := evFin_inv he
    obtain ⟨h1, h2⟩ := fn_okJ mixed plain (gk_ok k87_ok 30) Try.func87 loops87s h0
    exact ⟨h1, h2.fin he⟩
   ·cases hs
noncomputable def rn114_2_0 (b c d : Int) (a : LL) : Int := IntKind.i64.wrap (IntKind.i64.wrap (2 * b) + 2)
noncomputable def go114_2 (b c d : Int) (a : LL) : Bool := bif bif decide (d ≤ rn114_2_0 b c d a) then decide (d < (↑a.length : Int)) else false then vev112_1 Tk.lent a d c else false
noncomputable def nx114_2_1 (b c d : Int) (a : LL) : Int := bif vev112_0 Tk.lent a d c then d else c
noncomputable def nx114_2_2 (b c d : Int) (a : LL) : Int := IntKind.i64.wrap (d + 1)
noncomputable def xc114_2_0 (b c d : Int) (a : LL) : Bool := bif bif decide (d ≤ rn114_2_0 b c d a) then decide (d < (↑a.length : Int)) else false then false else true
theorem rd114_2 (rest : Lsp) (b c d : Int) (a : LL) : rV k87s rest 114 1 j114 2 [0, 1, 4, 5] [0] [0, 1, 4] [0] [AV.rf 0 kI2, iA b, iA c, iA d] [Blk.row kI2 a] = bif go114_2 b c d a then some (Ex.norm, [AV.rf 0 kI2, iA b, iA (nx114_2_1 b c d a), iA (nx114_2_2 b c d a)], [Blk.row kI2 a]) else bif xc114_2_0 b c d a then some (Ex.exit 0, [AV.rf 0 kI2, iA b, iA c], [Blk.row kI2 a]) else none := by
 refine Eq.trans (b := bif bif decide (d ≤ rn114_2_0 b c d a) then true else true then bif bif decide (d ≤ rn114_2_0 b c d a) then bif true then decide (d < (↑a.length : Int)) else false else false then bif vev112_1 Tk.lent a d c then bif vev112_0 Tk.lent a d c then some (Ex.norm, [AV.rf 0 kI2, iA b, iA d, iA (IntKind.i64.wrap (d + 1))], [Blk.row kI2 a]) else some (Ex.norm, [AV.rf 0 kI2, iA b, iA c, iA (IntKind.i64.wrap (d + 1))], [Blk.row kI2 a]) else none else some (Ex.exit 0, [AV.rf 0 kI2, iA b, iA c], [Blk.row kI2 a]) else none) (by kernel_rfl) ?_
 unfold go114_2 nx114_2_1 nx114_2_2 xc114_2_0
 generalize (decide (d < (↑a.length : Int))) = c0
 generalize (decide (d ≤ rn114_2_0 b c d a)) = c1
 generalize (vev112_0 _ _ _ _) = c2
 generalize (vev112_1 _ _ _ _) = c3
 cases c1; rfl; cases c0; rfl; cases c3; rfl; cases c2; rfl; rfl
abbrev pl114_2 : Type := Int × LL
abbrev sl114_2 : Type := Int × Int
noncomputable def vt114_2 (a : pl114_2 × sl114_2) : List AV := [AV.rf 0 kI2, iA a.1.1, iA a.2.1, iA a.2.2]
noncomputable def vc114_2 (a : pl114_2 × sl114_2) : List Blk := [Blk.row kI2 a.1.2]
noncomputable def de114_2 (vt : List AV) (vc : List Blk) : Option (pl114_2 × sl114_2) :=
 match vt with
 | [qa0, qa1, qa2, qa3] => (match vc with
 | [qb0] => (match qa0 with
 | AV.rf (0) [.int .i64, .int .i64] => (match qa1 with
 | .int .i64 t1 => (match qa2 with
 | .int .i64 t4 => (match qa3 with
 | .int .i64 t5 => (match qb0 with
 | .row [.int .i64, .int .i64] b0 => (some ((t1, b0), (t4, t5)))
 | _ => none)
 | _ => none)
 | _ => none)
 | _ => none)
 | _ => none)
 | _ => none)
 | _ => none
theorem de114_2_ok (vt : List AV) (vc : List Blk) (a : pl114_2 × sl114_2) (h : de114_2 vt vc = some a) : vt = vt114_2 a ∧ vc = vc114_2 a := by
 unfold de114_2 at h
 iterate 7 (split at h; rotate_left; · cases h)
 injection h with h; subst h; exact ⟨rfl, rfl⟩
noncomputable def g114_2 (p : pl114_2) (s : sl114_2) : Bool := go114_2 p.1 s.1 s.2 p.2
noncomputable def n114_2 (p : pl114_2) (s : sl114_2) : sl114_2 := (nx114_2_1 p.1 s.1 s.2 p.2, nx114_2_2 p.1 s.1 s.2 p.2)
noncomputable def y114_2 (p : pl114_2) (s : sl114_2) : List (Bool × Out) := []
noncomputable def z114_2 (p : pl114_2) (s : sl114_2) : Bool := xc114_2_0 p.1 s.1 s.2 p.2
noncomputable def d114_2 (p : pl114_2) (s : sl114_2) : Out := (Ex.exit 0, [AV.rf 0 kI2, iA p.1, iA s.1], [Blk.row kI2 p.2])
noncomputable def ls114_2 := lspOf [0, 1, 4, 5] [0] [0, 1, 4] [0] j114.ntmps (1 + tab.nid 114) de114_2 (spI g114_2 n114_2 y114_2 z114_2 d114_2)
theorem lo114_2 (rest : Lsp) : lO k87s (selL 2 ls114_2 rest) 114 1 j114 2 := LoopOK1.iter (i := 2) (by kernel_rfl) [0, 1, 4, 5] [0] [0, 1, 4] [0] vt114_2 vc114_2 de114_2 g114_2 n114_2 y114_2 z114_2 d114_2 (fun _ => rfl) de114_2_ok (fun p s => rd114_2 (selL 2 ls114_2 rest) (p.1) (s.1) (s.2) (p.2)) (fun _ _ => rfl)
noncomputable def rn114_0_0 (t1 : Int) (b0 : LL) : sl114_2 := finL (g114_2 (t1, b0)) (n114_2 (t1, b0)) (t1, IntKind.i64.wrap (IntKind.i64.wrap (2 * t1) + 1))
noncomputable def rn114_0_1 (t1 : Int) (b0 : LL) : Int := (rn114_0_0 t1 b0).fst
noncomputable def rn114_0_2 (t1 : Int) (b0 : LL) : Int := (↑(b0.set t1.toNat (over (fitRow kI2 (b0.getD t1.toNat [])) 0 (List.take 2 (List.drop 0 (fitRow kI2 (b0.getD (rn114_0_1 t1 b0).toNat [])))))).length : Int)
noncomputable def go114_0 (t1 : Int) (b0 : LL) : Bool := bif (spI g114_2 n114_2 y114_2 z114_2 d114_2 ((t1, b0), t1, IntKind.i64.wrap (IntKind.i64.wrap (2 * t1) + 1))).fst then bif rn114_0_1 t1 b0 != t1 then bif decide (0 ≤ rn114_0_1 t1 b0) && decide (rn114_0_1 t1 b0 < (↑b0.length : Int)) then bif decide (0 ≤ t1) && decide (t1 < (↑b0.length : Int)) then bif decide (0 ≤ rn114_0_1 t1 b0) then decide (rn114_0_1 t1 b0 < rn114_0_2 t1 b0) else false else false else false else false else false
noncomputable def nx114_0_1 (t1 : Int) (b0 : LL) : LL := (b0.set t1.toNat [iA (intOf ((b0.getD (rn114_0_1 t1 b0).toNat []).getD 0 AV.junk)), iA (intOf ((b0.getD (rn114_0_1 t1 b0).toNat []).getD (0 + 1) AV.junk))]).set (rn114_0_1 t1 b0).toNat [iA (intOf ((b0.getD t1.toNat []).getD 0 AV.junk)), iA (intOf ((b0.getD t1.toNat []).getD (0 + 1) AV.junk))]
noncomputable def xc114_0_0 (t1 : Int) (b0 : LL) : Bool := bif (spI g114_2 n114_2 y114_2 z114_2 d114_2 ((t1, b0), t1, IntKind.i64.wrap (IntKind.i64.wrap (2 * t1) + 1))).fst then bif rn114_0_1 t1 b0 != t1 then false else true else false
theorem rd114_0 (rest : Lsp) (t1 : Int) (b0 : LL) : rV k87s (selL 2 ls114_2 rest) 114 1 j114 0 [0, 1] [0] [] [0] [AV.rf 0 kI2, iA t1] [Blk.row kI2 b0] = bif go114_0 t1 b0 then some (Ex.norm, [AV.rf 0 kI2, iA (rn114_0_1 t1 b0)], [Blk.row kI2 (nx114_0_1 t1 b0)]) else bif xc114_0_0 t1 b0 then some (Ex.exit 1048576, [], [Blk.row kI2 b0]) else none := by
 refine Eq.trans (b := bif (spI g114_2 n114_2 y114_2 z114_2 d114_2 ((t1, b0), t1, IntKind.i64.wrap (IntKind.i64.wrap (2 * t1) + 1))).fst then bif rn114_0_1 t1 b0 != t1 then bif decide (0 ≤ rn114_0_1 t1 b0) && decide (rn114_0_1 t1 b0 < (↑b0.length : Int)) then bif decide (0 ≤ t1) && decide (t1 < (↑b0.length : Int)) then bif decide (0 ≤ t1) && decide (t1 < (↑b0.length : Int)) then bif bif decide (0 ≤ rn114_0_1 t1 b0) then decide (rn114_0_1 t1 b0 < rn114_0_2 t1 b0) else false then some (Ex.norm, [AV.rf 0 kI2, iA (rn114_0_1 t1 b0)], [Blk.row kI2 ((b0.set t1.toNat [iA (intOf ((b0.getD (rn114_0_1 t1 b0).toNat []).getD 0 AV.junk)), iA (intOf ((b0.getD (rn114_0_1 t1 b0).toNat []).getD (0 + 1) AV.junk))]).set (rn114_0_1 t1 b0).toNat [iA (intOf ((b0.getD t1.toNat []).getD 0 AV.junk)), iA (intOf ((b0.getD t1.toNat []).getD (0 + 1) AV.junk))])]) else none else none else none else none else some (Ex.exit 1048576, [], [Blk.row kI2 b0]) else none) (by kernel_rfl) ?_
 unfold go114_0 nx114_0_1 xc114_0_0
 generalize (spI g114_2 _ _ _ _ _).fst = c0
 generalize (decide (0 ≤ rn114_0_1 t1 b0) && decide (rn114_0_1 t1 b0 < (↑b0.length : Int))) = c1
 generalize (decide (0 ≤ t1) && decide (t1 < (↑b0.length : Int))) = c2
 generalize (decide (0 ≤ rn114_0_1 t1 b0)) = c3
 generalize (decide (rn114_0_1 t1 b0 < rn114_0_2 t1 b0)) = c4
 generalize (rn114_0_1 t1 b0 != t1) = c5
 cases c0; rfl; cases c5; rfl; cases c1; rfl; cases c2; rfl; cases c3; rfl; cases c4; rfl; rfl
abbrev pl114_0 : Type := Unit
abbrev sl114_0 : Type := Int × LL
noncomputable def vt114_0 (a : pl114_0 × sl114_0) : List AV := [AV.rf 0 kI2, iA a.2.1]
noncomputable def vc114_0 (a : pl114_0 × sl114_0) : List Blk := [Blk.row kI2 a.2.2]
noncomputable def de114_0 (vt : List AV) (vc : List Blk) : Option (pl114_0 × sl114_0) :=
 match vt with
 | [qa0, qa1] => (match vc with
 | [qb0] => (match qa0 with
 | AV.rf (0) [.int .i64, .int .i64] => (match qa1 with
 | .int .i64 t1 => (match qb0 with
 | .row [.int .i64, .int .i64] b0 => (some ((), (t1, b0)))
 | _ => none)
 | _ => none)
 | _ => none)
 | _ => none)
 | _ => none
theorem de114_0_ok (vt : List AV) (vc : List Blk) (a : pl114_0 × sl114_0) (h : de114_0 vt vc = some a) : vt = vt114_0 a ∧ vc = vc114_0 a := by
 unfold de114_0 at h
 iterate 5 (split at h; rotate_left; · cases h)
 injection h with h; subst h; exact ⟨rfl, rfl⟩
noncomputable def g114_0 (p : pl114_0) (s : sl114_0) : Bool := go114_0 s.1 s.2
noncomputable def n114_0 (p : pl114_0) (s : sl114_0) : sl114_0 := (rn114_0_1 s.1 s.2, nx114_0_1 s.1 s.2)
noncomputable def y114_0 (p : pl114_0) (s : sl114_0) : List (Bool × Out) := []
noncomputable def z114_0 (p : pl114_0) (s : sl114_0) : Bool := xc114_0_0 s.1 s.2
noncomputable def d114_0 (p : pl114_0) (s : sl114_0) : Out := (Ex.exit 1048576, [], [Blk.row kI2 s.2])
noncomputable def ls114_0 := lspOf [0, 1] [0] [] [0] j114.ntmps (1 + tab.nid 114) de114_0 (spI g114_0 n114_0 y114_0 z114_0 d114_0)
theorem lo114_0 (rest : Lsp) : lO k87s (selL 2 ls114_2 (selL 0 ls114_0 rest)) 114 1 j114 0 := LoopOK1.iter (i := 0) (by kernel_rfl) [0, 1] [0] [] [0] vt114_0 vc114_0 de114_0 g114_0 n114_0 y114_0 z114_0 d114_0 (fun _ => rfl) de114_0_ok (fun p s => rd114_0 (selL 0 ls114_0 rest) (s.1) (s.2)) (fun _ _ => rfl)
noncomputable def lsp114 : Lsp := (selL 2 ls114_2 (selL 0 ls114_0 noLsp))
theorem loops114 : ∀ c, j114.body = some c → lsO k87s lsp114 114 1 j114 c := loops_of [0, 2] (by kernel_rfl) (by kernel_rfl) (fun i hi => by
 simp only [List.mem_cons, List.not_mem_nil, or_false] at hi
 rcases hi with rfl | rfl
 ·exact lo114_0 noLsp
 ·exact lo114_2 (selL 0 ls114_0 noLsp))
noncomputable def rev114_0 (es : LL) (i : Int) : sl114_0 := finL (g114_0 ()) (n114_0 ()) (i, es)
noncomputable def vev114_0 (es : LL) (i : Int) : LL := (rev114_0 es i).snd
noncomputable def vev114_1 (es : LL) (i : Int) : Bool := bif (spI g114_0 n114_0 y114_0 z114_0 d114_0 ((), i, es)).fst then true else false
theorem ev114 (es : LL) (i : Int) : eF k87s lsp114 114 j114 [.rf 0 kI2, iA i] [.row kI2 es] = bif vev114_1 es i then some (true, AV.tup [], [Blk.row kI2 (vev114_0 es i)]) else none := by
 refine Eq.trans (b := bif (spI g114_0 n114_0 y114_0 z114_0 d114_0 ((), i, es)).fst then some (true, AV.tup [], [Blk.row kI2 (rev114_0 es i).snd]) else none) (by kernel_rfl) ?_
 unfold vev114_0 vev114_1
 generalize (spI g114_0 _ _ _ _ _).fst = c0
 cases c0
 ·skip
  rfl
 ·skip
  rfl
noncomputable def sp114 : Sp
 | [.rf 0 [.int .i64, .int .i64], .int .i64 i], [.row [.int .i64, .int .i64] es] => spW (vev114_1 es i) (some ((true, AV.tup [], [Blk.row kI2 (vev114_0 es i)])))
 | _, _ => none
noncomputable def k114 : Gam := spG 114 sp114 k87s
theorem k114_ok : GamOK Try.prog k114 := spG_ok k87s_ok fun T C r outs hs => by
   unfold sp114 at hs
   split at hs
   ·rename_i i es
    obtain ⟨hb, rfl, rfl⟩ := spT_inv hs
    have he := ev114 es i
    rw [hb, cond_true] at he
    obtain ⟨r0, o0, h0, he⟩ := evFin_inv he
    obtain ⟨h1, h2⟩ := fn_okJ mixed plain (gk_ok k87s_ok 30) Try.func114 loops114 h0
    exact ⟨h1, h2.fin he⟩
   ·cases hs
noncomputable def rn114s_2_0 (t0i t0n t0c : Nat) (b c d : Int) (a : LL) : Int := IntKind.i64.wrap (IntKind.i64.wrap (2 * b) + 2)
noncomputable def rn114s_2_1 (t0i t0n t0c : Nat) (b c d : Int) (a : LL) : LL := List.take t0n (List.drop t0i a)
noncomputable def go114s_2 (t0i t0n t0c : Nat) (b c d : Int) (a : LL) : Bool := bif bif decide (d ≤ rn114s_2_0 t0i t0n t0c b c d a) then decide (d < (↑t0n : Int)) else false then vev112_1 Tk.lent (rn114s_2_1 t0i t0n t0c b c d a) d c else false
noncomputable def nx114s_2_4 (t0i t0n t0c : Nat) (b c d : Int) (a : LL) : Int := bif vev112_0 Tk.lent (rn114s_2_1 t0i t0n t0c b c d a) d c then d else c
noncomputable def nx114s_2_5 (t0i t0n t0c : Nat) (b c d : Int) (a : LL) : Int := IntKind.i64.wrap (d + 1)
noncomputable def xc114s_2_0 (t0i t0n t0c : Nat) (b c d : Int) (a : LL) : Bool := bif bif decide (d ≤ rn114s_2_0 t0i t0n t0c b c d a) then decide (d < (↑t0n : Int)) else false then false else true
theorem rd114s_2 (rest : Lsp) (t0i t0n t0c : Nat) (b c d : Int) (a : LL) : rV k114 rest 114 1 j114 2 [0, 1, 4, 5] [0] [0, 1, 4] [0] [AV.rs 0 kI2 t0i t0n t0c, iA b, iA c, iA d] [Blk.row kI2 a] = bif go114s_2 t0i t0n t0c b c d a then some (Ex.norm, [AV.rs 0 kI2 t0i t0n t0c, iA b, iA (nx114s_2_4 t0i t0n t0c b c d a), iA (nx114s_2_5 t0i t0n t0c b c d a)], [Blk.row kI2 a]) else bif xc114s_2_0 t0i t0n t0c b c d a then some (Ex.exit 0, [AV.rs 0 kI2 t0i t0n t0c, iA b, iA c], [Blk.row kI2 a]) else none := by
 refine Eq.trans (b := bif bif decide (d ≤ rn114s_2_0 t0i t0n t0c b c d a) then true else true then bif bif decide (d ≤ rn114s_2_0 t0i t0n t0c b c d a) then bif true then decide (d < (↑t0n : Int)) else false else false then bif vev112_1 Tk.lent (rn114s_2_1 t0i t0n t0c b c d a) d c then bif vev112_0 Tk.lent (rn114s_2_1 t0i t0n t0c b c d a) d c then some (Ex.norm, [AV.rs 0 kI2 t0i t0n t0c, iA b, iA d, iA (IntKind.i64.wrap (d + 1))], [Blk.row kI2 a]) else some (Ex.norm, [AV.rs 0 kI2 t0i t0n t0c, iA b, iA c, iA (IntKind.i64.wrap (d + 1))], [Blk.row kI2 a]) else none else some (Ex.exit 0, [AV.rs 0 kI2 t0i t0n t0c, iA b, iA c], [Blk.row kI2 a]) else none) (by kernel_rfl) ?_
 unfold go114s_2 nx114s_2_4 nx114s_2_5 xc114s_2_0
 generalize (decide (d ≤ rn114s_2_0 t0i t0n t0c b c d a)) = c0
 generalize (decide (d < (↑t0n : Int))) = c1
 generalize (vev112_0 _ _ _ _) = c2
 generalize (vev112_1 _ _ _ _) = c3
 cases c0; rfl; cases c1; rfl; cases c3; rfl; cases c2; rfl; rfl
abbrev pl114s_2 : Type := Nat × Nat × Nat × Int × LL
abbrev sl114s_2 : Type := Int × Int
noncomputable def vt114s_2 (a : pl114s_2 × sl114s_2) : List AV := [AV.rs 0 kI2 a.1.1 a.1.2.1 a.1.2.2.1, iA a.1.2.2.2.1, iA a.2.1, iA a.2.2]
noncomputable def vc114s_2 (a : pl114s_2 × sl114s_2) : List Blk := [Blk.row kI2 a.1.2.2.2.2]
noncomputable def de114s_2 (vt : List AV) (vc : List Blk) : Option (pl114s_2 × sl114s_2) :=
 match vt with
 | [qa0, qa1, qa2, qa3] => (match vc with
 | [qb0] => (match qa0 with
 | AV.rs (0) [.int .i64, .int .i64] t0i t0n t0c => (match qa1 with
 | .int .i64 t1 => (match qa2 with
 | .int .i64 t4 => (match qa3 with
 | .int .i64 t5 => (match qb0 with
 | .row [.int .i64, .int .i64] b0 => (some ((t0i, t0n, t0c, t1, b0), (t4, t5)))
 | _ => none)
 | _ => none)
 | _ => none)
 | _ => none)
 | _ => none)
 | _ => none)
 | _ => none
theorem de114s_2_ok (vt : List AV) (vc : List Blk) (a : pl114s_2 × sl114s_2) (h : de114s_2 vt vc = some a) : vt = vt114s_2 a ∧ vc = vc114s_2 a := by
 unfold de114s_2 at h
 iterate 7 (split at h; rotate_left; · cases h)
 injection h with h; subst h; exact ⟨rfl, rfl⟩
noncomputable def g114s_2 (p : pl114s_2) (s : sl114s_2) : Bool := go114s_2 p.1 p.2.1 p.2.2.1 p.2.2.2.1 s.1 s.2 p.2.2.2.2
noncomputable def n114s_2 (p : pl114s_2) (s : sl114s_2) : sl114s_2 := (nx114s_2_4 p.1 p.2.1 p.2.2.1 p.2.2.2.1 s.1 s.2 p.2.2.2.2, nx114s_2_5 p.1 p.2.1 p.2.2.1 p.2.2.2.1 s.1 s.2 p.2.2.2.2)
noncomputable def y114s_2 (p : pl114s_2) (s : sl114s_2) : List (Bool × Out) := []
noncomputable def z114s_2 (p : pl114s_2) (s : sl114s_2) : Bool := xc114s_2_0 p.1 p.2.1 p.2.2.1 p.2.2.2.1 s.1 s.2 p.2.2.2.2
noncomputable def d114s_2 (p : pl114s_2) (s : sl114s_2) : Out := (Ex.exit 0, [AV.rs 0 kI2 p.1 p.2.1 p.2.2.1, iA p.2.2.2.1, iA s.1], [Blk.row kI2 p.2.2.2.2])
noncomputable def ls114s_2 := lspOf [0, 1, 4, 5] [0] [0, 1, 4] [0] j114.ntmps (1 + tab.nid 114) de114s_2 (spI g114s_2 n114s_2 y114s_2 z114s_2 d114s_2)
theorem lo114s_2 (rest : Lsp) : lO k114 (selL 2 ls114s_2 rest) 114 1 j114 2 := LoopOK1.iter (i := 2) (by kernel_rfl) [0, 1, 4, 5] [0] [0, 1, 4] [0] vt114s_2 vc114s_2 de114s_2 g114s_2 n114s_2 y114s_2 z114s_2 d114s_2 (fun _ => rfl) de114s_2_ok (fun p s => rd114s_2 (selL 2 ls114s_2 rest) (p.1) (p.2.1) (p.2.2.1) (p.2.2.2.1) (s.1) (s.2) (p.2.2.2.2)) (fun _ _ => rfl)
noncomputable def rn114s_0_0 (t0i t0n t0c : Nat) (t1 : Int) (b0 : LL) : sl114s_2 := finL (g114s_2 (t0i, t0n, t0c, t1, b0)) (n114s_2 (t0i, t0n, t0c, t1, b0)) (t1, IntKind.i64.wrap (IntKind.i64.wrap (2 * t1) + 1))
noncomputable def rn114s_0_1 (t0i t0n t0c : Nat) (t1 : Int) (b0 : LL) : Int := (rn114s_0_0 t0i t0n t0c t1 b0).fst
noncomputable def go114s_0 (t0i t0n t0c : Nat) (t1 : Int) (b0 : LL) : Bool := bif (spI g114s_2 n114s_2 y114s_2 z114s_2 d114s_2 ((t0i, t0n, t0c, t1, b0), t1, IntKind.i64.wrap (IntKind.i64.wrap (2 * t1) + 1))).fst then bif rn114s_0_1 t0i t0n t0c t1 b0 != t1 then bif decide (0 ≤ rn114s_0_1 t0i t0n t0c t1 b0) && decide (rn114s_0_1 t0i t0n t0c t1 b0 < (↑t0n : Int)) then decide (0 ≤ t1) && decide (t1 < (↑t0n : Int)) else false else false else false
noncomputable def nx114s_0_4 (t0i t0n t0c : Nat) (t1 : Int) (b0 : LL) : LL := (b0.set (t1.toNat + t0i) [iA (intOf ((b0.getD ((rn114s_0_1 t0i t0n t0c t1 b0).toNat + t0i) []).getD 0 AV.junk)), iA (intOf ((b0.getD ((rn114s_0_1 t0i t0n t0c t1 b0).toNat + t0i) []).getD (0 + 1) AV.junk))]).set ((rn114s_0_1 t0i t0n t0c t1 b0).toNat + t0i) [iA (intOf ((b0.getD (t1.toNat + t0i) []).getD 0 AV.junk)), iA (intOf ((b0.getD (t1.toNat + t0i) []).getD (0 + 1) AV.junk))]
noncomputable def xc114s_0_0 (t0i t0n t0c : Nat) (t1 : Int) (b0 : LL) : Bool := bif (spI g114s_2 n114s_2 y114s_2 z114s_2 d114s_2 ((t0i, t0n, t0c, t1, b0), t1, IntKind.i64.wrap (IntKind.i64.wrap (2 * t1) + 1))).fst then bif rn114s_0_1 t0i t0n t0c t1 b0 != t1 then false else true else false
theorem rd114s_0 (rest : Lsp) (t0i t0n t0c : Nat) (t1 : Int) (b0 : LL) : rV k114 (selL 2 ls114s_2 rest) 114 1 j114 0 [0, 1] [0] [] [0] [AV.rs 0 kI2 t0i t0n t0c, iA t1] [Blk.row kI2 b0] = bif go114s_0 t0i t0n t0c t1 b0 then some (Ex.norm, [AV.rs 0 kI2 t0i t0n t0c, iA (rn114s_0_1 t0i t0n t0c t1 b0)], [Blk.row kI2 (nx114s_0_4 t0i t0n t0c t1 b0)]) else bif xc114s_0_0 t0i t0n t0c t1 b0 then some (Ex.exit 1048576, [], [Blk.row kI2 b0]) else none := by
 refine Eq.trans (b := bif (spI g114s_2 n114s_2 y114s_2 z114s_2 d114s_2 ((t0i, t0n, t0c, t1, b0), t1, IntKind.i64.wrap (IntKind.i64.wrap (2 * t1) + 1))).fst then bif rn114s_0_1 t0i t0n t0c t1 b0 != t1 then bif decide (0 ≤ rn114s_0_1 t0i t0n t0c t1 b0) && decide (rn114s_0_1 t0i t0n t0c t1 b0 < (↑t0n : Int)) then bif decide (0 ≤ t1) && decide (t1 < (↑t0n : Int)) then bif decide (0 ≤ t1) && decide (t1 < (↑t0n : Int)) then bif decide (0 ≤ rn114s_0_1 t0i t0n t0c t1 b0) && decide (rn114s_0_1 t0i t0n t0c t1 b0 < (↑t0n : Int)) then some (Ex.norm, [AV.rs 0 kI2 t0i t0n t0c, iA (rn114s_0_1 t0i t0n t0c t1 b0)], [Blk.row kI2 ((b0.set (t1.toNat + t0i) [iA (intOf ((b0.getD ((rn114s_0_1 t0i t0n t0c t1 b0).toNat + t0i) []).getD 0 AV.junk)), iA (intOf ((b0.getD ((rn114s_0_1 t0i t0n t0c t1 b0).toNat + t0i) []).getD (0 + 1) AV.junk))]).set ((rn114s_0_1 t0i t0n t0c t1 b0).toNat + t0i) [iA (intOf ((b0.getD (t1.toNat + t0i) []).getD 0 AV.junk)), iA (intOf ((b0.getD (t1.toNat + t0i) []).getD (0 + 1) AV.junk))])]) else none else none else none else none else some (Ex.exit 1048576, [], [Blk.row kI2 b0]) else none) (by kernel_rfl) ?_
 unfold go114s_0 nx114s_0_4 xc114s_0_0
 generalize (spI g114s_2 _ _ _ _ _).fst = c0
 generalize (decide (0 ≤ rn114s_0_1 t0i t0n t0c t1 b0) && decide (rn114s_0_1 t0i t0n t0c t1 b0 < (↑t0n : Int))) = c1
 generalize (decide (0 ≤ t1) && decide (t1 < (↑t0n : Int))) = c2
 generalize (rn114s_0_1 t0i t0n t0c t1 b0 != t1) = c3
 cases c0; rfl; cases c3; rfl; cases c1; rfl; cases c2; rfl; rfl
abbrev pl114s_0 : Type := Nat × Nat × Nat
abbrev sl114s_0 : Type := Int × LL
noncomputable def vt114s_0 (a : pl114s_0 × sl114s_0) : List AV := [AV.rs 0 kI2 a.1.1 a.1.2.1 a.1.2.2, iA a.2.1]
noncomputable def vc114s_0 (a : pl114s_0 × sl114s_0) : List Blk := [Blk.row kI2 a.2.2]
noncomputable def de114s_0 (vt : List AV) (vc : List Blk) : Option (pl114s_0 × sl114s_0) :=
 match vt with
 | [qa0, qa1] => (match vc with
 | [qb0] => (match qa0 with
 | AV.rs (0) [.int .i64, .int .i64] t0i t0n t0c => (match qa1 with
 | .int .i64 t1 => (match qb0 with
 | .row [.int .i64, .int .i64] b0 => (some ((t0i, t0n, t0c), (t1, b0)))
 | _ => none)
 | _ => none)
 | _ => none)
 | _ => none)
 | _ => none
theorem de114s_0_ok (vt : List AV) (vc : List Blk) (a : pl114s_0 × sl114s_0) (h : de114s_0 vt vc = some a) : vt = vt114s_0 a ∧ vc = vc114s_0 a := by
 unfold de114s_0 at h
 iterate 5 (split at h; rotate_left; · cases h)
 injection h with h; subst h; exact ⟨rfl, rfl⟩
noncomputable def g114s_0 (p : pl114s_0) (s : sl114s_0) : Bool := go114s_0 p.1 p.2.1 p.2.2 s.1 s.2
noncomputable def n114s_0 (p : pl114s_0) (s : sl114s_0) : sl114s_0 := (rn114s_0_1 p.1 p.2.1 p.2.2 s.1 s.2, nx114s_0_4 p.1 p.2.1 p.2.2 s.1 s.2)
noncomputable def y114s_0 (p : pl114s_0) (s : sl114s_0) : List (Bool × Out) := []
noncomputable def z114s_0 (p : pl114s_0) (s : sl114s_0) : Bool := xc114s_0_0 p.1 p.2.1 p.2.2 s.1 s.2
noncomputable def d114s_0 (p : pl114s_0) (s : sl114s_0) : Out := (Ex.exit 1048576, [], [Blk.row kI2 s.2])
noncomputable def ls114s_0 := lspOf [0, 1] [0] [] [0] j114.ntmps (1 + tab.nid 114) de114s_0 (spI g114s_0 n114s_0 y114s_0 z114s_0 d114s_0)
theorem lo114s_0 (rest : Lsp) : lO k114 (selL 2 ls114s_2 (selL 0 ls114s_0 rest)) 114 1 j114 0 := LoopOK1.iter (i := 0) (by kernel_rfl) [0, 1] [0] [] [0] vt114s_0 vc114s_0 de114s_0 g114s_0 n114s_0 y114s_0 z114s_0 d114s_0 (fun _ => rfl) de114s_0_ok (fun p s => rd114s_0 (selL 0 ls114s_0 rest) (p.1) (p.2.1) (p.2.2) (s.1) (s.2)) (fun _ _ => rfl)
noncomputable def lsp114s : Lsp := (selL 2 ls114s_2 (selL 0 ls114s_0 noLsp))
theorem loops114s : ∀ c, j114.body = some c → lsO k114 lsp114s 114 1 j114 c := loops_of [0, 2] (by kernel_rfl) (by kernel_rfl) (fun i hi => by
 simp only [List.mem_cons, List.not_mem_nil, or_false] at hi
 rcases hi with rfl | rfl
 ·exact lo114s_0 noLsp
 ·exact lo114s_2 (selL 0 ls114s_0 noLsp))
noncomputable def rev114s_0 (es : LL) (n cp : Nat) (i : Int) : sl114s_0 := finL (g114s_0 (0, n, cp)) (n114s_0 (0, n, cp)) (i, es)
noncomputable def vev114s_0 (es : LL) (n cp : Nat) (i : Int) : LL := (rev114s_0 es n cp i).snd
noncomputable def vev114s_1 (es : LL) (n cp : Nat) (i : Int) : Bool := bif (spI g114s_0 n114s_0 y114s_0 z114s_0 d114s_0 ((0, n, cp), i, es)).fst then true else false
theorem ev114s (es : LL) (n cp : Nat) (i : Int) : eF k114 lsp114s 114 j114 [.rs 0 kI2 0 n cp, iA i] [.row kI2 es] = bif vev114s_1 es n cp i then some (true, AV.tup [], [Blk.row kI2 (vev114s_0 es n cp i)]) else none := by
 refine Eq.trans (b := bif (spI g114s_0 n114s_0 y114s_0 z114s_0 d114s_0 ((0, n, cp), i, es)).fst then some (true, AV.tup [], [Blk.row kI2 (rev114s_0 es n cp i).snd]) else none) (by kernel_rfl) ?_
 unfold vev114s_0 vev114s_1
 generalize (spI g114s_0 _ _ _ _ _).fst = c0
 cases c0
 ·skip
  rfl
 ·skip
  rfl
noncomputable def sp114s : Sp
 | [.rs 0 [.int .i64, .int .i64] 0 n cp, .int .i64 i], [.row [.int .i64, .int .i64] es] => spW (vev114s_1 es n cp i) (some ((true, AV.tup [], [Blk.row kI2 (vev114s_0 es n cp i)])))
 | _, _ => none
noncomputable def k114s : Gam := spG 114 sp114s k114
theorem k114s_ok : GamOK Try.prog k114s := spG_ok k114_ok fun T C r outs hs => by
   unfold sp114s at hs
   split at hs
   ·rename_i n cp i es
    obtain ⟨hb, rfl, rfl⟩ := spT_inv hs
    have he := ev114s es n cp i
    rw [hb, cond_true] at he
    obtain ⟨r0, o0, h0, he⟩ := evFin_inv he
    obtain ⟨h1, h2⟩ := fn_okJ mixed plain (gk_ok k114_ok 30) Try.func114 loops114s h0
    exact ⟨h1, h2.fin he⟩
   ·cases hs
noncomputable def rn109_2_0 (c : Tk) (a : LL) (b : Int) : Int := IntKind.i64.wrap ((IntKind.i64.wrap (b - 1)).tdiv 2)
noncomputable def go109_2 (c : Tk) (a : LL) (b : Int) : Bool := bif decide (b < (↑a.length : Int)) then bif vev112_1 c a b (rn109_2_0 c a b) then bif vev112_0 c a b (rn109_2_0 c a b) then false else true else false else false
noncomputable def nx109_2_2 (c : Tk) (a : LL) (b : Int) : Int := IntKind.i64.wrap (b + 1)
noncomputable def xc109_2_0 (c : Tk) (a : LL) (b : Int) : Bool := bif decide (b < (↑a.length : Int)) then bif vev112_1 c a b (rn109_2_0 c a b) then vev112_0 c a b (rn109_2_0 c a b) else false else false
noncomputable def xc109_2_1 (c : Tk) (a : LL) (b : Int) : Bool := bif decide (b < (↑a.length : Int)) then false else true
theorem rd109_2 (rest : Lsp) (c : Tk) (a : LL) (b : Int) : rV k114s rest 109 0 Try.f109 2 [0, 3] [] [2] [] [AV.sl c kI2 a, iA b] [] = bif go109_2 c a b then some (Ex.norm, [AV.sl c kI2 a, iA (nx109_2_2 c a b)], []) else bif xc109_2_0 c a b then some (Ex.ret, [iA 10], []) else bif xc109_2_1 c a b then some (Ex.exit 0, [AV.junk], []) else none := by
 refine Eq.trans (b := bif decide (b < (↑a.length : Int)) then bif vev112_1 c a b (rn109_2_0 c a b) then bif vev112_0 c a b (rn109_2_0 c a b) then some (Ex.ret, [iA 10], []) else some (Ex.norm, [AV.sl c kI2 a, iA (IntKind.i64.wrap (b + 1))], []) else none else some (Ex.exit 0, [AV.junk], [])) (by kernel_rfl) ?_
 unfold go109_2 nx109_2_2 xc109_2_0 xc109_2_1
 generalize (decide (b < (↑a.length : Int))) = c0
 generalize (vev112_0 _ _ _ _) = c1
 generalize (vev112_1 _ _ _ _) = c2
 cases c0; rfl; cases c2; rfl; cases c1; rfl; rfl
abbrev pl109_2 : Type := Tk × LL
abbrev sl109_2 : Type := Int
noncomputable def vt109_2 (a : pl109_2 × sl109_2) : List AV := [AV.sl a.1.1 kI2 a.1.2, iA a.2]
noncomputable def vc109_2 (a : pl109_2 × sl109_2) : List Blk := []
noncomputable def de109_2 (vt : List AV) (vc : List Blk) : Option (pl109_2 × sl109_2) :=
 match vt with
 | [qa0, qa1] => (match vc with
 | [] => (match qa0 with
 | .sl t0k [.int .i64, .int .i64] t0 => (match qa1 with
 | .int .i64 t3 => (some ((t0k, t0), t3))
 | _ => none)
 | _ => none)
 | _ => none)
 | _ => none
theorem de109_2_ok (vt : List AV) (vc : List Blk) (a : pl109_2 × sl109_2) (h : de109_2 vt vc = some a) : vt = vt109_2 a ∧ vc = vc109_2 a := by
 unfold de109_2 at h
 iterate 4 (split at h; rotate_left; · cases h)
 injection h with h; subst h; exact ⟨rfl, rfl⟩
noncomputable def g109_2 (p : pl109_2) (s : sl109_2) : Bool := go109_2 p.1 p.2 s
noncomputable def n109_2 (p : pl109_2) (s : sl109_2) : sl109_2 := nx109_2_2 p.1 p.2 s
noncomputable def y109_2 (p : pl109_2) (s : sl109_2) : List (Bool × Out) := [(xc109_2_0 p.1 p.2 s, (Ex.ret, [iA 10], []))]
noncomputable def z109_2 (p : pl109_2) (s : sl109_2) : Bool := xc109_2_1 p.1 p.2 s
noncomputable def d109_2 (p : pl109_2) (s : sl109_2) : Out := (Ex.exit 0, [AV.junk], [])
noncomputable def ls109_2 := lspOf [0, 3] [] [2] [] Try.f109.ntmps (0 + tab.nid 109) de109_2 (spI g109_2 n109_2 y109_2 z109_2 d109_2)
theorem lo109_2 (rest : Lsp) : lO k114s (selL 2 ls109_2 rest) 109 0 Try.f109 2 := LoopOK1.iter (i := 2) (by kernel_rfl) [0, 3] [] [2] [] vt109_2 vc109_2 de109_2 g109_2 n109_2 y109_2 z109_2 d109_2 (fun _ => rfl) de109_2_ok (fun p s => rd109_2 (selL 2 ls109_2 rest) (p.1) (p.2) s) (fun _ _ => rfl)
noncomputable def lsp109 : Lsp := (selL 2 ls109_2 noLsp)
theorem loops109 : ∀ c, Try.f109.body = some c → lsO k114s lsp109 109 0 Try.f109 c := loops_of [2] (by kernel_rfl) (by kernel_rfl) (fun i hi => by simp only [List.mem_cons, List.not_mem_nil, or_false] at hi; subst hi; exact lo109_2 noLsp)
noncomputable def rev109_0 (tk : Tk) (es : LL) : sl109_2 := finL (g109_2 (tk, es)) (n109_2 (tk, es)) 1
noncomputable def vev109_0 (tk : Tk) (es : LL) : Int := bif xc109_2_0 tk es (rev109_0 tk es) then 10 else 0
noncomputable def vev109_1 (tk : Tk) (es : LL) : Bool := bif (spI g109_2 n109_2 y109_2 z109_2 d109_2 ((tk, es), 1)).fst then true else false
theorem ev109 (tk : Tk) (es : LL) : eF k114s lsp109 109 Try.f109 [.sl tk kI2 es] [] = bif vev109_1 tk es then some (true, iA (vev109_0 tk es), []) else none := by
 refine Eq.trans (b := bif (spI g109_2 n109_2 y109_2 z109_2 d109_2 ((tk, es), 1)).fst then bif xc109_2_0 tk es (rev109_0 tk es) then some (true, iA 10, []) else some (true, iA 0, []) else none) (by kernel_rfl) ?_
 unfold vev109_0 vev109_1
 generalize (spI g109_2 _ _ _ _ _).fst = c0
 generalize (xc109_2_0 _ _ _) = c1
 cases c0; rfl; cases c1; rfl; rfl
noncomputable def sp109 : Sp
 | [.sl tk [.int .i64, .int .i64] es], [] => spW (vev109_1 tk es) (some ((true, iA (vev109_0 tk es), [])))
 | _, _ => none
noncomputable def k109 : Gam := spG 109 sp109 k114s
theorem k109_ok : GamOK Try.prog k109 := spG_ok k114s_ok fun T C r outs hs => by
   unfold sp109 at hs
   split at hs
   ·exact okE k114s_ok Try.func109 loops109 (ev109 _ _) hs
   ·cases hs
noncomputable def go110_3 (t4 : Int) (b1 : LL) : Bool := bif decide (t4 ≥ 0) then vev114_1 b1 t4 else false
noncomputable def nx110_3_0 (t4 : Int) (b1 : LL) : Int := IntKind.i64.wrap (t4 - 1)
noncomputable def xc110_3_0 (t4 : Int) (b1 : LL) : Bool := bif decide (t4 ≥ 0) then false else true
theorem rd110_3 (rest : Lsp) (t4 : Int) (b1 : LL) : rV k109 rest 110 0 Try.f110 3 [3, 4] [0, 1] [3] [0, 1] [AV.rf 1 kI2, iA t4] [Blk.dead, Blk.row kI2 b1] = bif go110_3 t4 b1 then some (Ex.norm, [AV.rf 1 kI2, iA (nx110_3_0 t4 b1)], [Blk.dead, Blk.row kI2 (vev114_0 b1 t4)]) else bif xc110_3_0 t4 b1 then some (Ex.exit 0, [AV.rf 1 kI2], [Blk.dead, Blk.row kI2 b1]) else none := by
 refine Eq.trans (b := bif decide (t4 ≥ 0) then bif vev114_1 b1 t4 then some (Ex.norm, [AV.rf 1 kI2, iA (IntKind.i64.wrap (t4 - 1))], [Blk.dead, Blk.row kI2 (vev114_0 b1 t4)]) else none else some (Ex.exit 0, [AV.rf 1 kI2], [Blk.dead, Blk.row kI2 b1])) (by kernel_rfl) ?_
 unfold go110_3 nx110_3_0 xc110_3_0
 generalize (decide (t4 ≥ 0)) = c0
 generalize (vev114_1 _ _) = c1
 cases c0; rfl; cases c1; rfl; rfl
abbrev pl110_3 : Type := Unit
abbrev sl110_3 : Type := Int × LL
noncomputable def vt110_3 (a : pl110_3 × sl110_3) : List AV := [AV.rf 1 kI2, iA a.2.1]
noncomputable def vc110_3 (a : pl110_3 × sl110_3) : List Blk := [Blk.dead, Blk.row kI2 a.2.2]
noncomputable def de110_3 (vt : List AV) (vc : List Blk) : Option (pl110_3 × sl110_3) :=
 match vt with
 | [qa0, qa1] => (match vc with
 | [qb0, qb1] => (match qa0 with
 | AV.rf (1) [.int .i64, .int .i64] => (match qa1 with
 | .int .i64 t4 => (match qb0 with
 | Blk.dead => (match qb1 with
 | .row [.int .i64, .int .i64] b1 => (some ((), (t4, b1)))
 | _ => none)
 | _ => none)
 | _ => none)
 | _ => none)
 | _ => none)
 | _ => none
theorem de110_3_ok (vt : List AV) (vc : List Blk) (a : pl110_3 × sl110_3) (h : de110_3 vt vc = some a) : vt = vt110_3 a ∧ vc = vc110_3 a := by
 unfold de110_3 at h
 iterate 6 (split at h; rotate_left; · cases h)
 injection h with h; subst h; exact ⟨rfl, rfl⟩
noncomputable def g110_3 (p : pl110_3) (s : sl110_3) : Bool := go110_3 s.1 s.2
noncomputable def n110_3 (p : pl110_3) (s : sl110_3) : sl110_3 := (nx110_3_0 s.1 s.2, vev114_0 s.2 s.1)
noncomputable def y110_3 (p : pl110_3) (s : sl110_3) : List (Bool × Out) := []
noncomputable def z110_3 (p : pl110_3) (s : sl110_3) : Bool := xc110_3_0 s.1 s.2
noncomputable def d110_3 (p : pl110_3) (s : sl110_3) : Out := (Ex.exit 0, [AV.rf 1 kI2], [Blk.dead, Blk.row kI2 s.2])
noncomputable def ls110_3 := lspOf [3, 4] [0, 1] [3] [0, 1] Try.f110.ntmps (0 + tab.nid 110) de110_3 (spI g110_3 n110_3 y110_3 z110_3 d110_3)
theorem lo110_3 (rest : Lsp) : lO k109 (selL 3 ls110_3 rest) 110 0 Try.f110 3 := LoopOK1.iter (i := 3) (by kernel_rfl) [3, 4] [0, 1] [3] [0, 1] vt110_3 vc110_3 de110_3 g110_3 n110_3 y110_3 z110_3 d110_3 (fun _ => rfl) de110_3_ok (fun p s => rd110_3 (selL 3 ls110_3 rest) (s.1) (s.2)) (fun _ _ => rfl)
noncomputable def lsp110 : Lsp := (selL 3 ls110_3 noLsp)
theorem loops110 : ∀ c, Try.f110.body = some c → lsO k109 lsp110 110 0 Try.f110 c := loops_of [3] (by kernel_rfl) (by kernel_rfl) (fun i hi => by simp only [List.mem_cons, List.not_mem_nil, or_false] at hi; subst hi; exact lo110_3 noLsp)
noncomputable def rev110_0 (tk : Tk) (es : LL) : sl110_3 := finL (g110_3 ()) (n110_3 ()) (IntKind.i64.wrap (IntKind.i64.wrap ((↑es.length : Int).tdiv 2) - 1), es)
noncomputable def vev110_0 (tk : Tk) (es : LL) : LL := (rev110_0 tk es).snd
noncomputable def vev110_1 (tk : Tk) (es : LL) : Bool := bif (es.length * 16).ble 140737488355328 then bif (spI g110_3 n110_3 y110_3 z110_3 d110_3 ((), IntKind.i64.wrap (IntKind.i64.wrap ((↑es.length : Int).tdiv 2) - 1), es)).fst then true else false else false
theorem ev110 (tk : Tk) (es : LL) : evFun (cfg Try.prog tab 100000 (gk k109 30) lsp110 110 ([] : List Blk).length Try.f110.ntmps) Try.f110 [.sl tk kI2 es] [] = bif vev110_1 tk es then some (AV.rf 0 kI2, [Blk.row kI2 (vev110_0 tk es)]) else none := by
 refine Eq.trans (b := bif (es.length * 16).ble 140737488355328 then bif (spI g110_3 n110_3 y110_3 z110_3 d110_3 ((), IntKind.i64.wrap (IntKind.i64.wrap ((↑es.length : Int).tdiv 2) - 1), es)).fst then some (AV.rf 0 kI2, [Blk.row kI2 (rev110_0 tk es).snd]) else none else none) (by kernel_rfl) ?_
 unfold vev110_0 vev110_1
 generalize (spI g110_3 _ _ _ _ _).fst = c0
 generalize ((es.length * 16).ble 140737488355328) = c1
 cases c1; rfl; cases c0; rfl; rfl
noncomputable def sp110 : Sp
 | [.sl tk [.int .i64, .int .i64] es], [] => spW (vev110_1 tk es) (fin Try.prog (tab.frz 110) ([] : List Blk).length Try.f110.resultTypes.toList (some ((AV.rf 0 kI2, [Blk.row kI2 (vev110_0 tk es)]))))
 | _, _ => none
noncomputable def k110 : Gam := spG 110 sp110 k109
theorem k110_ok : GamOK Try.prog k110 := spG_ok k109_ok fun T C r outs hs => by
   unfold sp110 at hs
   split at hs
   ·rename_i tk es
    obtain ⟨hb, hs⟩ := spW_inv hs
    have he := ev110 tk es
    rw [hb, cond_true] at he
    obtain ⟨h1, h2⟩ := fn_ok mixed plain (gk_ok k109_ok 30) Try.func110 loops110 he
    exact ⟨h1, h2.fin hs⟩
   ·cases hs
noncomputable def vev86_0 (tk : Tk) (es : LL) : LL := bif vev109_0 tk es != 0 then vev110_0 tk es else es
noncomputable def vev86_1 (tk : Tk) (es : LL) : Bool := bif vev109_1 tk es then bif vev109_0 tk es != 0 then bif vev110_1 tk es then true else false else bif (es.length * 16).ble 140737488355328 then true else false else false
theorem ev86 (tk : Tk) (es : LL) : evFun (cfg Try.prog tab 100000 (gk k110 30) noLsp 86 ([] : List Blk).length Try.f86.ntmps) Try.f86 [.sl tk kI2 es] [] = bif vev86_1 tk es then some (AV.rf 0 kI2, [Blk.row kI2 (vev86_0 tk es)]) else none := by
 refine Eq.trans (b := bif vev109_1 tk es then bif vev109_0 tk es != 0 then bif vev110_1 tk es then some (AV.rf 0 kI2, [Blk.row kI2 (vev110_0 tk es)]) else none else bif (es.length * 16).ble 140737488355328 then some (AV.rf 0 kI2, [Blk.row kI2 es]) else none else none) (by kernel_rfl) ?_
 unfold vev86_0 vev86_1
 generalize ((es.length * 16).ble 140737488355328) = c0
 generalize (vev109_0 tk es != 0) = c1
 generalize (vev109_1 _ _) = c2
 generalize (vev110_1 _ _) = c3
 cases c2; rfl; cases c1; cases c0; rfl; rfl; cases c3; rfl; rfl
noncomputable def sp86 : Sp
 | [.sl tk [.int .i64, .int .i64] es], [] => spW (vev86_1 tk es) (fin Try.prog (tab.frz 86) ([] : List Blk).length Try.f86.resultTypes.toList (some ((AV.rf 0 kI2, [Blk.row kI2 (vev86_0 tk es)]))))
 | _, _ => none
noncomputable def k86 : Gam := spG 86 sp86 k110
theorem k86_ok : GamOK Try.prog k86 := spG_ok k110_ok fun T C r outs hs => by
   unfold sp86 at hs
   split at hs
   ·rename_i tk es
    obtain ⟨hb, hs⟩ := spW_inv hs
    have he := ev86 tk es
    rw [hb, cond_true] at he
    obtain ⟨h1, h2⟩ := fn_ok mixed plain (gk_ok k110_ok 30) Try.func86 (fun c _ => LoopsOK.none (fun _ _ => rfl) c) he
    exact ⟨h1, h2.fin hs⟩
   ·cases hs
noncomputable def rev99_0 (es : LL) (i : Int) : Int := IntKind.i64.wrap ((↑es.length : Int) - 1)
noncomputable def rev99_1 (es : LL) (i : Int) : LL := es.set i.toNat (over (fitRow kI2 (es.getD i.toNat [])) 0 (List.take 2 (List.drop 0 (fitRow kI2 (es.getD (rev99_0 es i).toNat [])))))
noncomputable def rev99_2 (es : LL) (i : Int) : Int := (↑(rev99_1 es i).length : Int)
noncomputable def rev99_3 (es : LL) (i : Int) : LL := vev114s_0 (rev99_1 es i) (rev99_0 es i).toNat (rev99_1 es i).length i
noncomputable def vev99_0 (es : LL) (i : Int) : LL := bif decide (i < rev99_0 es i) then vev87s_0 (rev99_3 es i) (rev99_0 es i).toNat (rev99_1 es i).length i else es.set i.toNat [iA (intOf ((es.getD (rev99_0 es i).toNat []).getD 0 AV.junk)), iA (intOf ((es.getD (rev99_0 es i).toNat []).getD (0 + 1) AV.junk))]
noncomputable def vev99_1 (es : LL) (i : Int) : Bool := bif decide (0 ≤ rev99_0 es i) && decide (rev99_0 es i < (↑es.length : Int)) then bif decide (0 ≤ i) && decide (i < (↑es.length : Int)) then bif bif decide ((0 : Int) ≤ 0) && decide (0 ≤ rev99_0 es i) then decide (rev99_0 es i ≤ rev99_2 es i) else false then bif decide (i < rev99_0 es i) then bif vev114s_1 (rev99_1 es i) (rev99_0 es i).toNat (rev99_1 es i).length i then bif vev87s_1 (rev99_3 es i) (rev99_0 es i).toNat (rev99_1 es i).length i then true else false else false else true else false else false else false
theorem ev99 (es : LL) (i : Int) : eF k86 noLsp 99 Try.f99 [.rf 0 kI2, iA i] [.row kI2 es] = bif vev99_1 es i then some (true, AV.rs 0 kI2 0 (rev99_0 es i).toNat (rev99_1 es i).length, [Blk.row kI2 (vev99_0 es i)]) else none := by
 refine Eq.trans (b := bif decide (0 ≤ rev99_0 es i) && decide (rev99_0 es i < (↑es.length : Int)) then bif decide (0 ≤ i) && decide (i < (↑es.length : Int)) then bif bif decide ((0 : Int) ≤ 0) && decide (0 ≤ rev99_0 es i) then decide (rev99_0 es i ≤ rev99_2 es i) else false then bif decide (i < rev99_0 es i) then bif vev114s_1 (rev99_1 es i) (rev99_0 es i).toNat (rev99_1 es i).length i then bif vev87s_1 (rev99_3 es i) (rev99_0 es i).toNat (rev99_1 es i).length i then some (true, AV.rs 0 kI2 0 (rev99_0 es i).toNat (rev99_1 es i).length, [Blk.row kI2 (vev87s_0 (rev99_3 es i) (rev99_0 es i).toNat (rev99_1 es i).length i)]) else none else none else some (true, AV.rs 0 kI2 0 (rev99_0 es i).toNat (rev99_1 es i).length, [Blk.row kI2 (es.set i.toNat [iA (intOf ((es.getD (rev99_0 es i).toNat []).getD 0 AV.junk)), iA (intOf ((es.getD (rev99_0 es i).toNat []).getD (0 + 1) AV.junk))])]) else none else none else none) (by kernel_rfl) ?_
 unfold vev99_0 vev99_1
 generalize (decide ((0 : Int) ≤ 0) && decide (0 ≤ rev99_0 es i)) = c0
 generalize (decide (0 ≤ rev99_0 es i) && decide (rev99_0 es i < (↑es.length : Int))) = c1
 generalize (decide (0 ≤ i) && decide (i < (↑es.length : Int))) = c2
 generalize (decide (rev99_0 es i ≤ rev99_2 es i)) = c3
 generalize (vev87s_1 (rev99_3 es i) (rev99_0 es i).toNat (rev99_1 es i).length i) = c4
 generalize (vev114s_1 (rev99_1 es i) (rev99_0 es i).toNat (rev99_1 es i).length i) = c5
 generalize (decide (i < rev99_0 es i)) = c6
 cases c1; rfl; cases c2; rfl; cases c0; rfl; cases c3; rfl; cases c6; rfl; cases c5; rfl; cases c4; rfl; rfl
noncomputable def sp99 : Sp
 | [.rf 0 [.int .i64, .int .i64], .int .i64 i], [.row [.int .i64, .int .i64] es] => spW (vev99_1 es i) (some ((true, AV.rs 0 kI2 0 (rev99_0 es i).toNat (rev99_1 es i).length, [Blk.row kI2 (vev99_0 es i)])))
 | _, _ => none
noncomputable def k99 : Gam := spG 99 sp99 k86
theorem k99_ok : GamOK Try.prog k99 := spG_ok k86_ok fun T C r outs hs => by
   unfold sp99 at hs
   split at hs
   ·exact okE k86_ok Try.func99 (fun c _ => LoopsOK.none (fun _ _ => rfl) c) (ev99 _ _) hs
   ·cases hs
noncomputable def rev50_0 (tk : Tk) (es : LL) (a b : Int) : LL := [[iA a, iA b]]
noncomputable def rev50_1 (tk : Tk) (es : LL) (a b : Int) : LL := vev86_0 tk es ++ rev50_0 tk es a b
noncomputable def rev50_2 (tk : Tk) (es : LL) (a b : Int) : Int := IntKind.i64.wrap ((↑(rev50_1 tk es a b).length : Int) - 1)
noncomputable def vev50_0 (tk : Tk) (es : LL) (a b : Int) : LL := vev87_0 (rev50_1 tk es a b) (rev50_2 tk es a b)
noncomputable def vev50_1 (tk : Tk) (es : LL) (a b : Int) : Bool := bif vev86_1 tk es then bif bif decide (((vev86_0 tk es).length + (rev50_0 tk es a b).length) * 16 ≤ 140737488355328) then decide ((vev86_0 tk es).length + (rev50_0 tk es a b).length ≤ 9223372036854775807) else false then bif vev87_1 (rev50_1 tk es a b) (rev50_2 tk es a b) then true else false else false else false
theorem ev50 (tk : Tk) (es : LL) (a b : Int) : eF k99 noLsp 50 Try.f50 [.sl tk kI2 es, .agg [iA a, iA b]] [] = bif vev50_1 tk es a b then some (true, AV.sl Tk.imm kI2 (vev50_0 tk es a b), []) else none := by
 refine Eq.trans (b := bif vev86_1 tk es then bif bif decide (((vev86_0 tk es).length + (rev50_0 tk es a b).length) * 16 ≤ 140737488355328) then decide ((vev86_0 tk es).length + (rev50_0 tk es a b).length ≤ 9223372036854775807) else false then bif vev87_1 (rev50_1 tk es a b) (rev50_2 tk es a b) then some (true, AV.sl Tk.imm kI2 (vev87_0 (rev50_1 tk es a b) (rev50_2 tk es a b)), []) else none else none else none) (by kernel_rfl) ?_
 unfold vev50_0 vev50_1
 generalize (decide (((vev86_0 tk es).length + (rev50_0 tk es a b).length) * 16 ≤ 140737488355328)) = c0
 generalize (decide ((vev86_0 tk es).length + (rev50_0 tk es a b).length ≤ 9223372036854775807)) = c1
 generalize (vev87_1 _ _) = c2
 generalize (vev86_1 _ _) = c3
 cases c3; rfl; cases c0; rfl; cases c1; rfl; cases c2; rfl; rfl
noncomputable def sp50 : Sp
 | [.sl tk [.int .i64, .int .i64] es, .agg [.int .i64 a, .int .i64 b]], [] => spW (vev50_1 tk es a b) (some ((true, AV.sl Tk.imm kI2 (vev50_0 tk es a b), [])))
 | _, _ => none
noncomputable def k50 : Gam := spG 50 sp50 k99
theorem k50_ok : GamOK Try.prog k50 := spG_ok k99_ok fun T C r outs hs => by
   unfold sp50 at hs
   split at hs
   ·exact okE k99_ok Try.func50 (fun c _ => LoopsOK.none (fun _ _ => rfl) c) (ev50 _ _ _ _) hs
   ·cases hs
noncomputable def rev66_0 (tk : Tk) (es : LL) : Int := (↑(vev86_0 tk es).length : Int)
noncomputable def vev66_0 (tk : Tk) (es : LL) : LL := bif (↑es.length : Int) == 0 then [] else List.take (rev99_0 (vev86_0 tk es) 0).toNat (List.drop 0 (vev99_0 (vev86_0 tk es) 0))
noncomputable def vev66_1 (tk : Tk) (es : LL) : Int := bif (↑es.length : Int) == 0 then 0 else intOf (((vev86_0 tk es).getD (Int.toNat 0) []).getD 0 AV.junk)
noncomputable def vev66_2 (tk : Tk) (es : LL) : Int := bif (↑es.length : Int) == 0 then 0 else intOf (((vev86_0 tk es).getD (Int.toNat 0) []).getD (0 + 1) AV.junk)
noncomputable def vev66_3 (tk : Tk) (es : LL) : Bool := bif (↑es.length : Int) == 0 then false else true
noncomputable def vev66_4 (tk : Tk) (es : LL) : Bool := bif (↑es.length : Int) == 0 then true else bif vev86_1 tk es then bif decide ((0 : Int) ≤ 0) && decide (0 < rev66_0 tk es) then bif vev99_1 (vev86_0 tk es) 0 then true else false else false else false
theorem ev66 (tk : Tk) (es : LL) : eF k50 noLsp 66 Try.f66 [.sl tk kI2 es] [] = bif vev66_4 tk es then some (true, AV.tup [AV.sl Tk.imm kI2 (vev66_0 tk es), AV.agg [iA (vev66_1 tk es), iA (vev66_2 tk es)], AV.bool (vev66_3 tk es)], []) else none := by
 refine Eq.trans (b := bif (↑es.length : Int) == 0 then some (true, AV.tup [AV.sl Tk.imm kI2 [], AV.agg [iA 0, iA 0], AV.bool false], []) else bif vev86_1 tk es then bif decide ((0 : Int) ≤ 0) && decide (0 < rev66_0 tk es) then bif vev99_1 (vev86_0 tk es) 0 then some (true, AV.tup [AV.sl Tk.imm kI2 (List.take (rev99_0 (vev86_0 tk es) 0).toNat (List.drop 0 (vev99_0 (vev86_0 tk es) 0))), AV.agg [iA (intOf (((vev86_0 tk es).getD (Int.toNat 0) []).getD 0 AV.junk)), iA (intOf (((vev86_0 tk es).getD (Int.toNat 0) []).getD (0 + 1) AV.junk))], AV.bool true], []) else none else none else none) (by kernel_rfl) ?_
 unfold vev66_0 vev66_1 vev66_2 vev66_3 vev66_4
 generalize (decide ((0 : Int) ≤ 0) && decide (0 < rev66_0 tk es)) = c0
 generalize ((↑es.length : Int) == 0) = c1
 generalize (vev99_1 _ _) = c2
 generalize (vev86_1 _ _) = c3
 cases c1; cases c3; rfl; cases c0; rfl; cases c2; rfl; rfl; rfl
noncomputable def sp66 : Sp
 | [.sl tk [.int .i64, .int .i64] es], [] => spW (vev66_4 tk es) (some ((true, AV.tup [AV.sl Tk.imm kI2 (vev66_0 tk es), AV.agg [iA (vev66_1 tk es), iA (vev66_2 tk es)], AV.bool (vev66_3 tk es)], [])))
 | _, _ => none
noncomputable def k66 : Gam := spG 66 sp66 k50
theorem k66_ok : GamOK Try.prog k66 := spG_ok k50_ok fun T C r outs hs => by
   unfold sp66 at hs
   split at hs
   ·exact okE k50_ok Try.func66 (fun c _ => LoopsOK.none (fun _ _ => rfl) c) (ev66 _ _) hs
   ·cases hs
end Go.Proofs.Gv
namespace Go.Proofs.Gv
open Go.Proofs
noncomputable def vev42_0 (n a b : Int) : Bool := bif decide (a ≤ n) then bif true then decide (n ≤ b) else false else false
theorem ev42 (n a b : Int) : eF k66 noLsp 42 Try.f42 [iA n, iA a, iA b] [] = bif true then some (true, AV.bool (vev42_0 n a b), []) else none := by
 refine Eq.trans (b := bif bif decide (a ≤ n) then true else true then some (true, AV.bool (bif decide (a ≤ n) then bif true then decide (n ≤ b) else false else false), []) else none) (by kernel_rfl) ?_
 unfold vev42_0
 generalize (decide (a ≤ n)) = c0
 cases c0
 ·skip
  rfl
 ·skip
  rfl
noncomputable def sp42 : Sp
 | [.int .i64 n, .int .i64 a, .int .i64 b], [] => spW (true) (some ((true, AV.bool (vev42_0 n a b), [])))
 | _, _ => none
noncomputable def k42 : Gam := spG 42 sp42 k66
theorem k42_ok : GamOK Try.prog k42 := spG_ok k66_ok fun T C r outs hs => by
   unfold sp42 at hs
   split at hs
   ·rename_i n a b
    obtain ⟨hb, rfl, rfl⟩ := spT_inv hs
    have he := ev42 n a b
    obtain ⟨r0, o0, h0, he⟩ := evFin_inv he
    obtain ⟨h1, h2⟩ := fn_ok mixed plain (gk_ok k66_ok 30) Try.func42 (fun c _ => LoopsOK.none (fun _ _ => rfl) c) h0
    exact ⟨h1, h2.fin he⟩
   ·cases hs
noncomputable def vev78_0 (n a : Int) : Bool := bif decide (0 ≤ n) then bif true then decide (n ≤ a) else false else false
theorem ev78 (n a : Int) : eF k42 noLsp 78 Try.f78 [iA n, iA a] [] = bif true then some (true, AV.bool (vev78_0 n a), []) else none := by
 refine Eq.trans (b := bif bif decide (0 ≤ n) then true else true then some (true, AV.bool (bif decide (0 ≤ n) then bif true then decide (n ≤ a) else false else false), []) else none) (by kernel_rfl) ?_
 unfold vev78_0
 generalize (decide (0 ≤ n)) = c0
 cases c0
 ·skip
  rfl
 ·skip
  rfl
noncomputable def sp78 : Sp
 | [.int .i64 n, .int .i64 a], [] => spW (true) (some ((true, AV.bool (vev78_0 n a), [])))
 | _, _ => none
noncomputable def k78 : Gam := spG 78 sp78 k42
theorem k78_ok : GamOK Try.prog k78 := spG_ok k42_ok fun T C r outs hs => by
   unfold sp78 at hs
   split at hs
   ·rename_i n a
    obtain ⟨hb, rfl, rfl⟩ := spT_inv hs
    have he := ev78 n a
    obtain ⟨r0, o0, h0, he⟩ := evFin_inv he
    obtain ⟨h1, h2⟩ := fn_ok mixed plain (gk_ok k42_ok 30) Try.func78 (fun c _ => LoopsOK.none (fun _ _ => rfl) c) h0
    exact ⟨h1, h2.fin he⟩
   ·cases hs
noncomputable def vev79_0 (n : Int) : Bool := bif decide (n > 0) then bif true then decide (n ≤ 16) else false else false
theorem ev79 (n : Int) : eF k78 noLsp 79 Try.f79 [iA n] [] = bif true then some (true, AV.bool (vev79_0 n), []) else none := by
 refine Eq.trans (b := bif bif decide (n > 0) then true else true then some (true, AV.bool (bif decide (n > 0) then bif true then decide (n ≤ 16) else false else false), []) else none) (by kernel_rfl) ?_
 unfold vev79_0
 generalize (decide (n > 0)) = c0
 cases c0
 ·skip
  rfl
 ·skip
  rfl
noncomputable def sp79 : Sp
 | [.int .i64 n], [] => spW (true) (some ((true, AV.bool (vev79_0 n), [])))
 | _, _ => none
noncomputable def k79 : Gam := spG 79 sp79 k78
theorem k79_ok : GamOK Try.prog k79 := spG_ok k78_ok fun T C r outs hs => by
   unfold sp79 at hs
   split at hs
   ·rename_i n
    obtain ⟨hb, rfl, rfl⟩ := spT_inv hs
    have he := ev79 n
    obtain ⟨r0, o0, h0, he⟩ := evFin_inv he
    obtain ⟨h1, h2⟩ := fn_ok mixed plain (gk_ok k78_ok 30) Try.func79 (fun c _ => LoopsOK.none (fun _ _ => rfl) c) h0
    exact ⟨h1, h2.fin he⟩
   ·cases hs
noncomputable def vev101_0 (c n : Int) : Int := bif bif !vev78_0 c 1099511627776 then true else !vev79_0 n then 0 else IntKind.i64.wrap (c * IntKind.i64.wrap (Int.tdiv 720720 n))
noncomputable def vev101_1 (c n : Int) : Int := bif bif !vev78_0 c 1099511627776 then true else !vev79_0 n then 8 else 0
noncomputable def vev101_2 (c n : Int) : Bool := bif bif !vev78_0 c 1099511627776 then true else !vev79_0 n then true else bif !n == 0 then true else false
theorem ev101 (c n : Int) : eF k79 noLsp 101 Try.f101 [iA c, iA n] [] = bif vev101_2 c n then some (true, AV.tup [iA (vev101_0 c n), iA (vev101_1 c n)], []) else none := by
 refine Eq.trans (b := bif bif !vev78_0 c 1099511627776 then true else true then bif bif !vev78_0 c 1099511627776 then true else bif false then true else !vev79_0 n then some (true, AV.tup [iA 0, iA 8], []) else bif !n == 0 then some (true, AV.tup [iA (IntKind.i64.wrap (c * IntKind.i64.wrap (Int.tdiv 720720 n))), iA 0], []) else none else none) (by kernel_rfl) ?_
 unfold vev101_0 vev101_1 vev101_2
 generalize (!n == 0) = c0
 generalize (!vev78_0 _ _) = c1
 generalize (!vev79_0 _) = c2
 cases c1; cases c2; cases c0; rfl; rfl; rfl; rfl
noncomputable def sp101 : Sp
 | [.int .i64 c, .int .i64 n], [] => spW (vev101_2 c n) (some ((true, AV.tup [iA (vev101_0 c n), iA (vev101_1 c n)], [])))
 | _, _ => none
noncomputable def k101 : Gam := spG 101 sp101 k79
theorem k101_ok : GamOK Try.prog k101 := spG_ok k79_ok fun T C r outs hs => by
   unfold sp101 at hs
   split at hs
   ·exact okE k79_ok Try.func101 (fun c _ => LoopsOK.none (fun _ _ => rfl) c) (ev101 _ _) hs
   ·cases hs
noncomputable def vev77_0 (w s f k : Int) : Int := bif bif vev79_0 w then bif vev78_0 k 1099511627776 then bif vev78_0 s 2305843009213693952 then vev78_0 f 2305843009213693952 else false else false else false then 0 else 8
theorem ev77 (w s f k : Int) : eF k101 noLsp 77 Try.f77 [.agg [iA w, iA s, iA f, iA k]] [] = bif true then some (true, iA (vev77_0 w s f k), []) else none := by
 refine Eq.trans (b := bif bif vev79_0 w then bif bif true then vev78_0 k 1099511627776 else false then bif bif true then vev78_0 s 2305843009213693952 else false then true else true else true else true then bif bif vev79_0 w then bif bif true then vev78_0 k 1099511627776 else false then bif bif true then vev78_0 s 2305843009213693952 else false then bif true then vev78_0 f 2305843009213693952 else false else false else false else false then some (true, iA 0, []) else some (true, iA 8, []) else none) (by kernel_rfl) ?_
 unfold vev77_0
 generalize (vev78_0 f 2305843009213693952) = c0
 generalize (vev78_0 k 1099511627776) = c1
 generalize (vev78_0 s 2305843009213693952) = c2
 generalize (vev79_0 _) = c3
 cases c3; rfl; cases c1; rfl; cases c2; rfl; cases c0; rfl; rfl
noncomputable def sp77 : Sp
 | [.agg [.int .i64 w, .int .i64 s, .int .i64 f, .int .i64 k]], [] => spW (true) (some ((true, iA (vev77_0 w s f k), [])))
 | _, _ => none
noncomputable def k77 : Gam := spG 77 sp77 k101
theorem k77_ok : GamOK Try.prog k77 := spG_ok k101_ok fun T C r outs hs => by
   unfold sp77 at hs
   split at hs
   ·rename_i w s f k
    obtain ⟨hb, rfl, rfl⟩ := spT_inv hs
    have he := ev77 w s f k
    obtain ⟨r0, o0, h0, he⟩ := evFin_inv he
    obtain ⟨h1, h2⟩ := fn_ok mixed plain (gk_ok k101_ok 30) Try.func77 (fun c _ => LoopsOK.none (fun _ _ => rfl) c) h0
    exact ⟨h1, h2.fin he⟩
   ·cases hs
noncomputable def vev43_0 (n : Int) : Int := bif !vev79_0 n then 0 else n
noncomputable def vev43_1 (n : Int) : Int := bif !vev79_0 n then 8 else 0
theorem ev43 (n : Int) : eF k77 noLsp 43 Try.f43 [iA n] [] = some (true, AV.tup [AV.agg [iA (vev43_0 n), iA 0, iA 0, iA 0], iA (vev43_1 n)], []) := by
 refine Eq.trans (b := bif !vev79_0 n then some (true, AV.tup [AV.agg [iA 0, iA 0, iA 0, iA 0], iA 8], []) else some (true, AV.tup [AV.agg [iA n, iA 0, iA 0, iA 0], iA 0], [])) (by kernel_rfl) ?_
 unfold vev43_0 vev43_1
 generalize (!vev79_0 _) = c0
 cases c0
 ·skip
  rfl
 ·skip
  rfl
noncomputable def sp43 : Sp
 | [.int .i64 n], [] => spW (true) (some ((true, AV.tup [AV.agg [iA (vev43_0 n), iA 0, iA 0, iA 0], iA (vev43_1 n)], [])))
 | _, _ => none
noncomputable def k43 : Gam := spG 43 sp43 k77
theorem k43_ok : GamOK Try.prog k43 := spG_ok k77_ok fun T C r outs hs => by
   unfold sp43 at hs
   split at hs
   ·rename_i n
    obtain ⟨hb, rfl, rfl⟩ := spT_inv hs
    have he := ev43 n
    obtain ⟨r0, o0, h0, he⟩ := evFin_inv he
    obtain ⟨h1, h2⟩ := fn_ok mixed plain (gk_ok k77_ok 30) Try.func43 (fun c _ => LoopsOK.none (fun _ _ => rfl) c) h0
    exact ⟨h1, h2.fin he⟩
   ·cases hs
noncomputable def vev49_0 (v w s f k : Int) : Int := bif bif vev77_0 w s f k == 0 then vev78_0 v 2305843009213693952 else false then if if true = true then f < v else v < f then v else f else s
theorem ev49 (v w s f k : Int) : eF k43 noLsp 49 Try.f49 [iA v, .agg [iA w, iA s, iA f, iA k]] [] = bif true then some (true, AV.agg [iA w, iA (vev49_0 v w s f k), iA f, iA k], []) else none := by
 refine Eq.trans (b := bif bif vev77_0 w s f k == 0 then true else true then bif bif vev77_0 w s f k == 0 then bif true then vev78_0 v 2305843009213693952 else false else false then some (true, AV.agg [iA w, iA (if if true = true then f < v else v < f then v else f), iA f, iA k], []) else some (true, AV.agg [iA w, iA s, iA f, iA k], []) else none) (by kernel_rfl) ?_
 unfold vev49_0
 generalize (vev77_0 w s f k == 0) = c0
 generalize (vev78_0 _ _) = c1
 cases c0; rfl; cases c1; rfl; rfl
noncomputable def sp49 : Sp
 | [.int .i64 v, .agg [.int .i64 w, .int .i64 s, .int .i64 f, .int .i64 k]], [] => spW (true) (some ((true, AV.agg [iA w, iA (vev49_0 v w s f k), iA f, iA k], [])))
 | _, _ => none
noncomputable def k49 : Gam := spG 49 sp49 k43
theorem k49_ok : GamOK Try.prog k49 := spG_ok k43_ok fun T C r outs hs => by
   unfold sp49 at hs
   split at hs
   ·rename_i v w s f k
    obtain ⟨hb, rfl, rfl⟩ := spT_inv hs
    have he := ev49 v w s f k
    obtain ⟨r0, o0, h0, he⟩ := evFin_inv he
    obtain ⟨h1, h2⟩ := fn_ok mixed plain (gk_ok k43_ok 30) Try.func49 (fun c _ => LoopsOK.none (fun _ _ => rfl) c) h0
    exact ⟨h1, h2.fin he⟩
   ·cases hs
noncomputable def rev68_0 (v w s f k c : Int) : Int := IntKind.i64.wrap (1099511627776 - k)
noncomputable def rev68_1 (v w s f k c : Int) : Int := IntKind.i64.wrap (2305843009213693952 - s)
noncomputable def vev68_0 (v w s f k c : Int) : Int := bif vev77_0 w s f k != 0 then v else bif vev101_1 c w != 0 then v else bif bif decide (c > rev68_0 v w s f k c) then true else decide (vev101_0 c w > rev68_1 v w s f k c) then v else s
noncomputable def vev68_1 (v w s f k c : Int) : Int := bif vev77_0 w s f k != 0 then s else bif vev101_1 c w != 0 then s else bif bif decide (c > rev68_0 v w s f k c) then true else decide (vev101_0 c w > rev68_1 v w s f k c) then s else IntKind.i64.wrap (s + vev101_0 c w)
noncomputable def vev68_2 (v w s f k c : Int) : Int := bif vev77_0 w s f k != 0 then f else bif vev101_1 c w != 0 then f else bif bif decide (c > rev68_0 v w s f k c) then true else decide (vev101_0 c w > rev68_1 v w s f k c) then f else IntKind.i64.wrap (s + vev101_0 c w)
noncomputable def vev68_3 (v w s f k c : Int) : Int := bif vev77_0 w s f k != 0 then k else bif vev101_1 c w != 0 then k else bif bif decide (c > rev68_0 v w s f k c) then true else decide (vev101_0 c w > rev68_1 v w s f k c) then k else IntKind.i64.wrap (k + c)
noncomputable def vev68_4 (v w s f k c : Int) : Int := bif vev77_0 w s f k != 0 then vev77_0 w s f k else bif vev101_1 c w != 0 then vev101_1 c w else bif bif decide (c > rev68_0 v w s f k c) then true else decide (vev101_0 c w > rev68_1 v w s f k c) then 7 else 0
noncomputable def vev68_5 (v w s f k c : Int) : Bool := bif vev77_0 w s f k != 0 then true else bif vev101_2 c w then true else false
theorem ev68 (v w s f k c : Int) : eF k49 noLsp 68 Try.f68 [iA v, .agg [iA w, iA s, iA f, iA k], iA c] [] = bif vev68_5 v w s f k c then some (true, AV.tup [iA (vev68_0 v w s f k c), AV.agg [iA w, iA (vev68_1 v w s f k c), iA (vev68_2 v w s f k c), iA (vev68_3 v w s f k c)], iA (vev68_4 v w s f k c)], []) else none := by
 refine Eq.trans (b := bif vev77_0 w s f k != 0 then some (true, AV.tup [iA v, AV.agg [iA w, iA s, iA f, iA k], iA (vev77_0 w s f k)], []) else bif vev101_2 c w then bif vev101_1 c w != 0 then some (true, AV.tup [iA v, AV.agg [iA w, iA s, iA f, iA k], iA (vev101_1 c w)], []) else bif bif decide (c > rev68_0 v w s f k c) then true else true then bif bif decide (c > rev68_0 v w s f k c) then true else bif false then true else decide (vev101_0 c w > rev68_1 v w s f k c) then some (true, AV.tup [iA v, AV.agg [iA w, iA s, iA f, iA k], iA 7], []) else some (true, AV.tup [iA s, AV.agg [iA w, iA (IntKind.i64.wrap (s + vev101_0 c w)), iA (IntKind.i64.wrap (s + vev101_0 c w)), iA (IntKind.i64.wrap (k + c))], iA 0], []) else none else none) (by kernel_rfl) ?_
 unfold vev68_0 vev68_1 vev68_2 vev68_3 vev68_4 vev68_5
 generalize (decide (vev101_0 c w > rev68_1 v w s f k c)) = c0
 generalize (decide (c > rev68_0 v w s f k c)) = c1
 generalize (vev77_0 w s f k != 0) = c2
 generalize (vev101_1 c w != 0) = c3
 generalize (vev101_2 _ _) = c4
 cases c2; cases c4; rfl; cases c3; cases c1; cases c0; rfl; rfl; rfl; rfl; rfl
noncomputable def sp68 : Sp
 | [.int .i64 v, .agg [.int .i64 w, .int .i64 s, .int .i64 f, .int .i64 k], .int .i64 c], [] => spW (vev68_5 v w s f k c) (some ((true, AV.tup [iA (vev68_0 v w s f k c), AV.agg [iA w, iA (vev68_1 v w s f k c), iA (vev68_2 v w s f k c), iA (vev68_3 v w s f k c)], iA (vev68_4 v w s f k c)], [])))
 | _, _ => none
noncomputable def k68 : Gam := spG 68 sp68 k49
theorem k68_ok : GamOK Try.prog k68 := spG_ok k49_ok fun T C r outs hs => by
   unfold sp68 at hs
   split at hs
   ·exact okE k49_ok Try.func68 (fun c _ => LoopsOK.none (fun _ _ => rfl) c) (ev68 _ _ _ _ _ _) hs
   ·cases hs
noncomputable def vev92_0 (n a : Int) : Bool := bif decide (n ≥ 0) then bif true then decide (n ≤ a) else false else false
theorem ev92 (n a : Int) : eF k68 noLsp 92 Try.f92 [iA n, iA a] [] = bif true then some (true, AV.bool (vev92_0 n a), []) else none := by
 refine Eq.trans (b := bif bif decide (n ≥ 0) then true else true then some (true, AV.bool (bif decide (n ≥ 0) then bif true then decide (n ≤ a) else false else false), []) else none) (by kernel_rfl) ?_
 unfold vev92_0
 generalize (decide (n ≥ 0)) = c0
 cases c0
 ·skip
  rfl
 ·skip
  rfl
noncomputable def sp92 : Sp
 | [.int .i64 n, .int .i64 a], [] => spW (true) (some ((true, AV.bool (vev92_0 n a), [])))
 | _, _ => none
noncomputable def k92 : Gam := spG 92 sp92 k68
theorem k92_ok : GamOK Try.prog k92 := spG_ok k68_ok fun T C r outs hs => by
   unfold sp92 at hs
   split at hs
   ·rename_i n a
    obtain ⟨hb, rfl, rfl⟩ := spT_inv hs
    have he := ev92 n a
    obtain ⟨r0, o0, h0, he⟩ := evFin_inv he
    obtain ⟨h1, h2⟩ := fn_ok mixed plain (gk_ok k68_ok 30) Try.func92 (fun c _ => LoopsOK.none (fun _ _ => rfl) c) h0
    exact ⟨h1, h2.fin he⟩
   ·cases hs
noncomputable def vev81_0 (w s f k : Int) : Int := bif bif decide (w < 1) then true else bif decide (w > 16) then true else bif !vev92_0 k 1099511627776 then true else bif !vev92_0 s 2305843009213693952 then true else !vev92_0 f 2305843009213693952 then 8 else 0
theorem ev81 (w s f k : Int) : eF k92 noLsp 81 Try.f81 [.agg [iA w, iA s, iA f, iA k]] [] = bif true then some (true, iA (vev81_0 w s f k), []) else none := by
 refine Eq.trans (b := bif bif decide (w < 1) then true else bif bif false then true else decide (w > 16) then true else bif bif false then true else !vev92_0 k 1099511627776 then true else bif bif false then true else !vev92_0 s 2305843009213693952 then true else true then bif bif decide (w < 1) then true else bif bif false then true else decide (w > 16) then true else bif bif false then true else !vev92_0 k 1099511627776 then true else bif bif false then true else !vev92_0 s 2305843009213693952 then true else bif false then true else !vev92_0 f 2305843009213693952 then some (true, iA 8, []) else some (true, iA 0, []) else none) (by kernel_rfl) ?_
 unfold vev81_0
 generalize (decide (w > 16)) = c0
 generalize (decide (w < 1)) = c1
 generalize (!vev92_0 f 2305843009213693952) = c2
 generalize (!vev92_0 k 1099511627776) = c3
 generalize (!vev92_0 s 2305843009213693952) = c4
 cases c1; cases c0; cases c3; cases c4; cases c2; rfl; rfl; rfl; rfl; rfl; rfl
noncomputable def sp81 : Sp
 | [.agg [.int .i64 w, .int .i64 s, .int .i64 f, .int .i64 k]], [] => spW (true) (some ((true, iA (vev81_0 w s f k), [])))
 | _, _ => none
noncomputable def k81 : Gam := spG 81 sp81 k92
theorem k81_ok : GamOK Try.prog k81 := spG_ok k92_ok fun T C r outs hs => by
   unfold sp81 at hs
   split at hs
   ·rename_i w s f k
    obtain ⟨hb, rfl, rfl⟩ := spT_inv hs
    have he := ev81 w s f k
    obtain ⟨r0, o0, h0, he⟩ := evFin_inv he
    obtain ⟨h1, h2⟩ := fn_ok mixed plain (gk_ok k92_ok 30) Try.func81 (fun c _ => LoopsOK.none (fun _ _ => rfl) c) h0
    exact ⟨h1, h2.fin he⟩
   ·cases hs
noncomputable def vev103_0 (c n : Int) : Int := bif bif !vev92_0 c 1099511627776 then true else bif decide (n < 1) then true else decide (n > 16) then 0 else IntKind.i64.wrap ((IntKind.i64.wrap (c * 720720)).tdiv n)
noncomputable def vev103_1 (c n : Int) : Int := bif bif !vev92_0 c 1099511627776 then true else bif decide (n < 1) then true else decide (n > 16) then 8 else 0
noncomputable def vev103_2 (c n : Int) : Bool := bif bif !vev92_0 c 1099511627776 then true else bif decide (n < 1) then true else decide (n > 16) then true else bif !n == 0 then true else false
theorem ev103 (c n : Int) : eF k81 noLsp 103 Try.f103 [iA c, iA n] [] = bif vev103_2 c n then some (true, AV.tup [iA (vev103_0 c n), iA (vev103_1 c n)], []) else none := by
 refine Eq.trans (b := bif bif !vev92_0 c 1099511627776 then true else bif bif false then true else decide (n < 1) then true else true then bif bif !vev92_0 c 1099511627776 then true else bif bif false then true else decide (n < 1) then true else bif false then true else decide (n > 16) then some (true, AV.tup [iA 0, iA 8], []) else bif !n == 0 then some (true, AV.tup [iA (IntKind.i64.wrap ((IntKind.i64.wrap (c * 720720)).tdiv n)), iA 0], []) else none else none) (by kernel_rfl) ?_
 unfold vev103_0 vev103_1 vev103_2
 generalize (decide (n > 16)) = c0
 generalize (decide (n < 1)) = c1
 generalize (!n == 0) = c2
 generalize (!vev92_0 _ _) = c3
 cases c3; cases c1; cases c0; cases c2; rfl; rfl; rfl; rfl; rfl
noncomputable def sp103 : Sp
 | [.int .i64 c, .int .i64 n], [] => spW (vev103_2 c n) (some ((true, AV.tup [iA (vev103_0 c n), iA (vev103_1 c n)], [])))
 | _, _ => none
noncomputable def k103 : Gam := spG 103 sp103 k81
theorem k103_ok : GamOK Try.prog k103 := spG_ok k81_ok fun T C r outs hs => by
   unfold sp103 at hs
   split at hs
   ·exact okE k81_ok Try.func103 (fun c _ => LoopsOK.none (fun _ _ => rfl) c) (ev103 _ _) hs
   ·cases hs
noncomputable def rev45_0 (n : Int) : Int := vev81_0 n 0 0 0
noncomputable def vev45_0 (n : Int) : Int := bif rev45_0 n != 0 then 0 else n
noncomputable def vev45_1 (n : Int) : Int := bif rev45_0 n != 0 then rev45_0 n else 0
theorem ev45 (n : Int) : eF k103 noLsp 45 Try.f45 [iA n] [] = some (true, AV.tup [AV.agg [iA (vev45_0 n), iA 0, iA 0, iA 0], iA (vev45_1 n)], []) := by
 refine Eq.trans (b := bif rev45_0 n != 0 then some (true, AV.tup [AV.agg [iA 0, iA 0, iA 0, iA 0], iA (rev45_0 n)], []) else some (true, AV.tup [AV.agg [iA n, iA 0, iA 0, iA 0], iA 0], [])) (by kernel_rfl) ?_
 unfold vev45_0 vev45_1
 generalize (rev45_0 n != 0) = c0
 cases c0
 ·skip
  rfl
 ·skip
  rfl
noncomputable def sp45 : Sp
 | [.int .i64 n], [] => spW (true) (some ((true, AV.tup [AV.agg [iA (vev45_0 n), iA 0, iA 0, iA 0], iA (vev45_1 n)], [])))
 | _, _ => none
noncomputable def k45 : Gam := spG 45 sp45 k103
theorem k45_ok : GamOK Try.prog k45 := spG_ok k103_ok fun T C r outs hs => by
   unfold sp45 at hs
   split at hs
   ·rename_i n
    obtain ⟨hb, rfl, rfl⟩ := spT_inv hs
    have he := ev45 n
    obtain ⟨r0, o0, h0, he⟩ := evFin_inv he
    obtain ⟨h1, h2⟩ := fn_ok mixed plain (gk_ok k103_ok 30) Try.func45 (fun c _ => LoopsOK.none (fun _ _ => rfl) c) h0
    exact ⟨h1, h2.fin he⟩
   ·cases hs
noncomputable def vev53_0 (v w s f k : Int) : Int := bif bif vev81_0 w s f k != 0 then true else !vev92_0 v 2305843009213693952 then s else if if true = true then v < f else f < v then f else v
theorem ev53 (v w s f k : Int) : eF k45 noLsp 53 Try.f53 [iA v, .agg [iA w, iA s, iA f, iA k]] [] = bif true then some (true, AV.agg [iA w, iA (vev53_0 v w s f k), iA f, iA k], []) else none := by
 refine Eq.trans (b := bif bif vev81_0 w s f k != 0 then true else true then bif bif vev81_0 w s f k != 0 then true else bif false then true else !vev92_0 v 2305843009213693952 then some (true, AV.agg [iA w, iA s, iA f, iA k], []) else some (true, AV.agg [iA w, iA (if if true = true then v < f else f < v then f else v), iA f, iA k], []) else none) (by kernel_rfl) ?_
 unfold vev53_0
 generalize (vev81_0 w s f k != 0) = c0
 generalize (!vev92_0 _ _) = c1
 cases c0; cases c1; rfl; rfl; rfl
noncomputable def sp53 : Sp
 | [.int .i64 v, .agg [.int .i64 w, .int .i64 s, .int .i64 f, .int .i64 k]], [] => spW (true) (some ((true, AV.agg [iA w, iA (vev53_0 v w s f k), iA f, iA k], [])))
 | _, _ => none
noncomputable def k53 : Gam := spG 53 sp53 k45
theorem k53_ok : GamOK Try.prog k53 := spG_ok k45_ok fun T C r outs hs => by
   unfold sp53 at hs
   split at hs
   ·rename_i v w s f k
    obtain ⟨hb, rfl, rfl⟩ := spT_inv hs
    have he := ev53 v w s f k
    obtain ⟨r0, o0, h0, he⟩ := evFin_inv he
    obtain ⟨h1, h2⟩ := fn_ok mixed plain (gk_ok k45_ok 30) Try.func53 (fun c _ => LoopsOK.none (fun _ _ => rfl) c) h0
    exact ⟨h1, h2.fin he⟩
   ·cases hs
noncomputable def rev71_0 (v w s f k c : Int) : Int := IntKind.i64.wrap (k + c)
noncomputable def rev71_1 (v w s f k c : Int) : Int := IntKind.i64.wrap (s + vev103_0 c w)
noncomputable def vev71_0 (v w s f k c : Int) : Int := bif vev81_0 w s f k != 0 then v else bif vev103_1 c w != 0 then v else bif bif decide (rev71_0 v w s f k c > 1099511627776) then true else decide (rev71_1 v w s f k c > 2305843009213693952) then v else s
noncomputable def vev71_1 (v w s f k c : Int) : Int := bif vev81_0 w s f k != 0 then s else bif vev103_1 c w != 0 then s else bif bif decide (rev71_0 v w s f k c > 1099511627776) then true else decide (rev71_1 v w s f k c > 2305843009213693952) then s else rev71_1 v w s f k c
noncomputable def vev71_2 (v w s f k c : Int) : Int := bif vev81_0 w s f k != 0 then f else bif vev103_1 c w != 0 then f else bif bif decide (rev71_0 v w s f k c > 1099511627776) then true else decide (rev71_1 v w s f k c > 2305843009213693952) then f else rev71_1 v w s f k c
noncomputable def vev71_3 (v w s f k c : Int) : Int := bif vev81_0 w s f k != 0 then k else bif vev103_1 c w != 0 then k else bif bif decide (rev71_0 v w s f k c > 1099511627776) then true else decide (rev71_1 v w s f k c > 2305843009213693952) then k else rev71_0 v w s f k c
noncomputable def vev71_4 (v w s f k c : Int) : Int := bif vev81_0 w s f k != 0 then vev81_0 w s f k else bif vev103_1 c w != 0 then vev103_1 c w else bif bif decide (rev71_0 v w s f k c > 1099511627776) then true else decide (rev71_1 v w s f k c > 2305843009213693952) then 7 else 0
noncomputable def vev71_5 (v w s f k c : Int) : Bool := bif vev81_0 w s f k != 0 then true else bif vev103_2 c w then true else false
theorem ev71 (v w s f k c : Int) : eF k53 noLsp 71 Try.f71 [iA v, .agg [iA w, iA s, iA f, iA k], iA c] [] = bif vev71_5 v w s f k c then some (true, AV.tup [iA (vev71_0 v w s f k c), AV.agg [iA w, iA (vev71_1 v w s f k c), iA (vev71_2 v w s f k c), iA (vev71_3 v w s f k c)], iA (vev71_4 v w s f k c)], []) else none := by
 refine Eq.trans (b := bif vev81_0 w s f k != 0 then some (true, AV.tup [iA v, AV.agg [iA w, iA s, iA f, iA k], iA (vev81_0 w s f k)], []) else bif vev103_2 c w then bif vev103_1 c w != 0 then some (true, AV.tup [iA v, AV.agg [iA w, iA s, iA f, iA k], iA (vev103_1 c w)], []) else bif bif decide (rev71_0 v w s f k c > 1099511627776) then true else true then bif bif decide (rev71_0 v w s f k c > 1099511627776) then true else bif false then true else decide (rev71_1 v w s f k c > 2305843009213693952) then some (true, AV.tup [iA v, AV.agg [iA w, iA s, iA f, iA k], iA 7], []) else some (true, AV.tup [iA s, AV.agg [iA w, iA (rev71_1 v w s f k c), iA (rev71_1 v w s f k c), iA (rev71_0 v w s f k c)], iA 0], []) else none else none) (by kernel_rfl) ?_
 unfold vev71_0 vev71_1 vev71_2 vev71_3 vev71_4 vev71_5
 generalize (decide (rev71_0 v w s f k c > 1099511627776)) = c0
 generalize (decide (rev71_1 v w s f k c > 2305843009213693952)) = c1
 generalize (vev81_0 w s f k != 0) = c2
 generalize (vev103_1 c w != 0) = c3
 generalize (vev103_2 _ _) = c4
 cases c2; cases c4; rfl; cases c3; cases c0; cases c1; rfl; rfl; rfl; rfl; rfl
noncomputable def sp71 : Sp
 | [.int .i64 v, .agg [.int .i64 w, .int .i64 s, .int .i64 f, .int .i64 k], .int .i64 c], [] => spW (vev71_5 v w s f k c) (some ((true, AV.tup [iA (vev71_0 v w s f k c), AV.agg [iA w, iA (vev71_1 v w s f k c), iA (vev71_2 v w s f k c), iA (vev71_3 v w s f k c)], iA (vev71_4 v w s f k c)], [])))
 | _, _ => none
noncomputable def k71 : Gam := spG 71 sp71 k53
theorem k71_ok : GamOK Try.prog k71 := spG_ok k53_ok fun T C r outs hs => by
   unfold sp71 at hs
   split at hs
   ·exact okE k53_ok Try.func71 (fun c _ => LoopsOK.none (fun _ _ => rfl) c) (ev71 _ _ _ _ _ _) hs
   ·cases hs
noncomputable def rev48_0 (c : Int) (es : LL) : Int := (↑(elsO ((List.drop 1 (getK es c)).getD (0 + 1 + 1 + 1 + 1 + 1 + 1) AV.junk)).length : Int)
noncomputable def vev48_0 (c : Int) (es : LL) : Bool := decide (rev48_0 c es > 0)
noncomputable def vev48_1 (c : Int) (es : LL) : Bool := bif hasK es c then true else false
theorem ev48 (c : Int) (es : LL) : eF k71 noLsp 48 Try.f48 [.mt 0 kF c 0] [.tbl kF es none] = bif vev48_1 c es then some (true, AV.bool (vev48_0 c es), [Blk.tbl kF es none]) else none := by
 refine Eq.trans (b := bif hasK es c then some (true, AV.bool (decide (rev48_0 c es > 0)), [Blk.tbl kF es none]) else none) (by kernel_rfl) ?_
 unfold vev48_0 vev48_1
 generalize (hasK es c) = c0
 cases c0
 ·skip
  rfl
 ·skip
  rfl
noncomputable def sp48 : Sp
 | [.mt 0 [.int .i64, .int .i64, .int .i64, .int .i64, .int .i64, .int .i64, .sl [.int .i64, .int .i64, .int .i64, .int .i64]] c 0], [.tbl [.int .i64, .int .i64, .int .i64, .int .i64, .int .i64, .int .i64, .sl [.int .i64, .int .i64, .int .i64, .int .i64]] es none] => spW (vev48_1 c es) (some ((true, AV.bool (vev48_0 c es), [.row [] []])))
 | _, _ => none
noncomputable def k48 : Gam := spG 48 sp48 k71
theorem k48_ok : GamOK Try.prog k48 := spG_ok k71_ok fun T C r outs hs => by
   unfold sp48 at hs
   split at hs
   ·rename_i c es
    obtain ⟨hb, rfl, rfl⟩ := spT_inv hs
    have he := ev48 c es
    rw [hb, cond_true] at he
    obtain ⟨r0, o0, h0, he⟩ := evFin_inv he
    obtain ⟨h1, h2⟩ := fn_ok mixed plain (gk_ok k71_ok 30) Try.func48 (fun c _ => LoopsOK.none (fun _ _ => rfl) c) h0
    have h3 := h2.fin he
    exact ⟨h1, h3⟩
   ·cases hs
noncomputable def rn34_5_0 (c d e f g : Int) (h : LL) (i j : Int) (a b : LL) : Int := intOf ((a.getD e.toNat []).getD 0 AV.junk)
noncomputable def rn34_5_1 (c d e f g : Int) (h : LL) (i j : Int) (a b : LL) : Int := intOf ((List.drop 1 (getK b (rn34_5_0 c d e f g h i j a b))).getD (0 + 1 + 1 + 1 + 1 + 1) AV.junk)
noncomputable def rn34_5_2 (c d e f g : Int) (h : LL) (i j : Int) (a b : LL) : LL := elsO ((List.drop 1 (getK b (rn34_5_0 c d e f g h i j a b))).getD (0 + 1 + 1 + 1 + 1 + 1 + 1) AV.junk)
noncomputable def go34_5 (c d e f g : Int) (h : LL) (i j : Int) (a b : LL) : Bool := bif decide (e < d) then bif decide (0 ≤ e) && decide (e < (↑a.length : Int)) then bif hasK b (rn34_5_0 c d e f g h i j a b) then vev74_1 (rn34_5_1 c d e f g h i j a b) Tk.imm (rn34_5_2 c d e f g h i j a b) else false else false else false
noncomputable def nx34_5_0 (c d e f g : Int) (h : LL) (i j : Int) (a b : LL) : Int := IntKind.i64.wrap (c + vev74_0 (rn34_5_1 c d e f g h i j a b) Tk.imm (rn34_5_2 c d e f g h i j a b))
noncomputable def nx34_5_2 (c d e f g : Int) (h : LL) (i j : Int) (a b : LL) : Int := IntKind.i64.wrap (e + 1)
noncomputable def xc34_5_0 (c d e f g : Int) (h : LL) (i j : Int) (a b : LL) : Bool := bif decide (e < d) then false else true
theorem rd34_5 (rest : Lsp) (c d e f g : Int) (i : LL) (j k : Int) (a b : LL) : rV k48 rest 34 3 Try.f34 5 [0, 3, 11, 12, 13] [0, 1, 2] [3] [0, 1, 2] [AV.hp 0 0, iA c, AV.rf 1 kI1, iA d, iA e] (bS f g i j k a b) = bif go34_5 c d e f g i j k a b then some (Ex.norm, [AV.hp 0 0, iA (nx34_5_0 c d e f g i j k a b), AV.rf 1 kI1, iA d, iA (nx34_5_2 c d e f g i j k a b)], (bS f g i j k a b)) else bif xc34_5_0 c d e f g i j k a b then some (Ex.exit 0, [iA c], (bS f g i j k a b)) else none := by
 refine Eq.trans (b := bif decide (e < d) then bif decide (0 ≤ e) && decide (e < (↑a.length : Int)) then bif hasK b (rn34_5_0 c d e f g i j k a b) then bif hasK b (rn34_5_0 c d e f g i j k a b) then bif vev74_1 (rn34_5_1 c d e f g i j k a b) Tk.imm (rn34_5_2 c d e f g i j k a b) then some (Ex.norm, [AV.hp 0 0, iA (IntKind.i64.wrap (c + vev74_0 (rn34_5_1 c d e f g i j k a b) Tk.imm (rn34_5_2 c d e f g i j k a b))), AV.rf 1 kI1, iA d, iA (IntKind.i64.wrap (e + 1))], (bS f g i j k a b)) else none else none else none else none else some (Ex.exit 0, [iA c], (bS f g i j k a b))) (by kernel_rfl) ?_
 unfold go34_5 nx34_5_0 nx34_5_2 xc34_5_0
 generalize (decide (0 ≤ e) && decide (e < (↑a.length : Int))) = c0
 generalize (vev74_1 _ _ _) = c1
 generalize (hasK b (rn34_5_0 c d e f g i j k a b)) = c2
 generalize (decide (e < d)) = c3
 cases c3; rfl; cases c0; rfl; cases c2; rfl; cases c1; rfl; rfl
abbrev pl34_5 : Type := Int × Int × Int × LL × Int × Int × LL × LL
abbrev sl34_5 : Type := Int × Int
noncomputable def vt34_5 (a : pl34_5 × sl34_5) : List AV := [AV.hp 0 0, iA a.2.1, AV.rf 1 kI1, iA a.1.1, iA a.2.2]
noncomputable def vc34_5 (a : pl34_5 × sl34_5) : List Blk := (bS a.1.2.1 a.1.2.2.1 a.1.2.2.2.1 a.1.2.2.2.2.1 a.1.2.2.2.2.2.1 a.1.2.2.2.2.2.2.1 a.1.2.2.2.2.2.2.2)
noncomputable def de34_5 (vt : List AV) (vc : List Blk) : Option (pl34_5 × sl34_5) :=
 match vt with
 | [qa0, qa1, qa2, qa3, qa4] => (match vc with
 | [qb0, qb1, qb2] => (match qa0 with
 | AV.hp (0) (0) => (match qa1 with
 | .int .i64 t3 => (match qa2 with
 | AV.rf (1) [.int .i64] => (match qa3 with
 | .int .i64 t12 => (match qa4 with
 | .int .i64 t13 => (match qb0 with
 | .var [.int .i64 b0_0, .int .i64 b0_1, AV.rf (1) [.int .i64], AV.mp (2) [.int .i64, .int .i64, .int .i64, .int .i64, .int .i64, .int .i64, .sl [.int .i64, .int .i64, .int .i64, .int .i64]], .sl Tk.imm [.int .i64, .int .i64] b0_4, .int .i64 b0_5, .int .i64 b0_6] => (match qb1 with
 | .row [.int .i64] b1 => (match qb2 with
 | Blk.tbl [.int .i64, .int .i64, .int .i64, .int .i64, .int .i64, .int .i64, .sl [.int .i64, .int .i64, .int .i64, .int .i64]] b2 none => (some ((t12, b0_0, b0_1, b0_4, b0_5, b0_6, b1, b2), (t3, t13)))
 | _ => none)
 | _ => none)
 | _ => none)
 | _ => none)
 | _ => none)
 | _ => none)
 | _ => none)
 | _ => none)
 | _ => none)
 | _ => none
theorem de34_5_ok (vt : List AV) (vc : List Blk) (a : pl34_5 × sl34_5) (h : de34_5 vt vc = some a) : vt = vt34_5 a ∧ vc = vc34_5 a := by
 unfold de34_5 at h
 iterate 10 (split at h; rotate_left; · cases h)
 injection h with h; subst h; exact ⟨rfl, rfl⟩
noncomputable def g34_5 (p : pl34_5) (s : sl34_5) : Bool := go34_5 s.1 p.1 s.2 p.2.1 p.2.2.1 p.2.2.2.1 p.2.2.2.2.1 p.2.2.2.2.2.1 p.2.2.2.2.2.2.1 p.2.2.2.2.2.2.2
noncomputable def n34_5 (p : pl34_5) (s : sl34_5) : sl34_5 := (nx34_5_0 s.1 p.1 s.2 p.2.1 p.2.2.1 p.2.2.2.1 p.2.2.2.2.1 p.2.2.2.2.2.1 p.2.2.2.2.2.2.1 p.2.2.2.2.2.2.2, nx34_5_2 s.1 p.1 s.2 p.2.1 p.2.2.1 p.2.2.2.1 p.2.2.2.2.1 p.2.2.2.2.2.1 p.2.2.2.2.2.2.1 p.2.2.2.2.2.2.2)
noncomputable def y34_5 (p : pl34_5) (s : sl34_5) : List (Bool × Out) := []
noncomputable def z34_5 (p : pl34_5) (s : sl34_5) : Bool := xc34_5_0 s.1 p.1 s.2 p.2.1 p.2.2.1 p.2.2.2.1 p.2.2.2.2.1 p.2.2.2.2.2.1 p.2.2.2.2.2.2.1 p.2.2.2.2.2.2.2
noncomputable def d34_5 (p : pl34_5) (s : sl34_5) : Out := (Ex.exit 0, [iA s.1], (bS p.2.1 p.2.2.1 p.2.2.2.1 p.2.2.2.2.1 p.2.2.2.2.2.1 p.2.2.2.2.2.2.1 p.2.2.2.2.2.2.2))
noncomputable def ls34_5 := lspOf [0, 3, 11, 12, 13] [0, 1, 2] [3] [0, 1, 2] Try.f34.ntmps (3 + tab.nid 34) de34_5 (spI g34_5 n34_5 y34_5 z34_5 d34_5)
theorem lo34_5 (rest : Lsp) : lO k48 (selL 5 ls34_5 rest) 34 3 Try.f34 5 := LoopOK1.iter (i := 5) (by kernel_rfl) [0, 3, 11, 12, 13] [0, 1, 2] [3] [0, 1, 2] vt34_5 vc34_5 de34_5 g34_5 n34_5 y34_5 z34_5 d34_5 (fun _ => rfl) de34_5_ok (fun p s => rd34_5 (selL 5 ls34_5 rest) (s.1) (p.1) (s.2) (p.2.1) (p.2.2.1) (p.2.2.2.1) (p.2.2.2.2.1) (p.2.2.2.2.2.1) (p.2.2.2.2.2.2.1) (p.2.2.2.2.2.2.2)) (fun _ _ => rfl)
noncomputable def lsp34 : Lsp := (selL 5 ls34_5 noLsp)
theorem loops34 : ∀ c, Try.f34.body = some c → lsO k48 lsp34 34 3 Try.f34 c := loops_of [5] (by kernel_rfl) (by kernel_rfl) (fun i hi => by simp only [List.mem_cons, List.not_mem_nil, or_false] at hi; subst hi; exact lo34_5 noLsp)
noncomputable def rev34_0 (q lim t k : Int) (order es ready : LL) : sl34_5 := finL (g34_5 ((↑order.length : Int), q, lim, ready, t, k, order, es)) (n34_5 ((↑order.length : Int), q, lim, ready, t, k, order, es)) (0, 0)
noncomputable def vev34_0 (q lim t k : Int) (order es ready : LL) : Int := (rev34_0 q lim t k order es ready).fst
noncomputable def vev34_1 (q lim t k : Int) (order es ready : LL) : Bool := bif (spI g34_5 n34_5 y34_5 z34_5 d34_5 (((↑order.length : Int), q, lim, ready, t, k, order, es), 0, 0)).fst then true else false
theorem ev34 (q lim t k : Int) (order es ready : LL) : eF k48 lsp34 34 Try.f34 [.hp 0 0] (bS q lim ready t k order es) = bif vev34_1 q lim t k order es ready then some (true, iA (vev34_0 q lim t k order es ready), (bS q lim ready t k order es)) else none := by
 refine Eq.trans (b := bif (spI g34_5 n34_5 y34_5 z34_5 d34_5 (((↑order.length : Int), q, lim, ready, t, k, order, es), 0, 0)).fst then some (true, iA (rev34_0 q lim t k order es ready).fst, (bS q lim ready t k order es)) else none) (by kernel_rfl) ?_
 unfold vev34_0 vev34_1
 generalize (spI g34_5 _ _ _ _ _).fst = c0
 cases c0
 ·skip
  rfl
 ·skip
  rfl
noncomputable def sp34 : Sp
 | [.hp 0 0], [.var [.int .i64 q, .int .i64 lim, .rf 1 [.int .i64], .mp 2 [.int .i64, .int .i64, .int .i64, .int .i64, .int .i64, .int .i64, .sl [.int .i64, .int .i64, .int .i64, .int .i64]], .sl .imm [.int .i64, .int .i64] ready, .int .i64 t, .int .i64 k], .row [.int .i64] order, .tbl [.int .i64, .int .i64, .int .i64, .int .i64, .int .i64, .int .i64, .sl [.int .i64, .int .i64, .int .i64, .int .i64]] es none] => spW (vev34_1 q lim t k order es ready) (some ((true, iA (vev34_0 q lim t k order es ready), [.row [] []])))
 | _, _ => none
noncomputable def k34 : Gam := spG 34 sp34 k48
theorem k34_ok : GamOK Try.prog k34 := spG_ok k48_ok fun T C r outs hs => by
   unfold sp34 at hs
   split at hs
   ·rename_i q lim ready t k order es
    obtain ⟨hb, rfl, rfl⟩ := spT_inv hs
    have he := ev34 q lim t k order es ready
    rw [hb, cond_true] at he
    obtain ⟨r0, o0, h0, he⟩ := evFin_inv he
    obtain ⟨h1, h2⟩ := fn_ok mixed plain (gk_ok k48_ok 30) Try.func34 loops34 h0
    have h3 := h2.fin he
    exact ⟨h1, h3⟩
   ·cases hs
end Go.Proofs.Gv
