import Derived.Test.YthnbpgiohimkoaaPw32
import Derived.Test.YthnbpgiohimkoaaPw35
import Derived.Test.YthnbpgiohimkoaaPw27
import Derived.KernelRfl
import Derived.Test.YthnbpgiohimkoaaPw30
import Derived.Test.YthnbpgiohimkoaaPw31
import Derived.Test.YthnbpgiohimkoaaPw37
import Derived.Test.YthnbpgiohimkoaaPw33
set_option linter.unusedVariables false
namespace Go.Proofs.Gv
open Go.Proofs
noncomputable def rev13_0 (q lim t k : Int) (order es ready : LL) (c n : Int) : LL := [[iA c]]
noncomputable def vev13_0 (q lim t k : Int) (order es ready : LL) (c n : Int) : Int := bif bif vev43_1 n != 0 then true else !vev42_0 c 0 2147483647 then 8 else bif hasK es c then 12 else bif decide ((↑es.length : Int) ≥ 8) then 7 else bif vev44_1 lim != 0 then vev44_1 lim else 0
noncomputable def vev13_1 (q lim t k : Int) (order es ready : LL) (c n : Int) : LL := bif bif vev43_1 n != 0 then true else !vev42_0 c 0 2147483647 then order else bif hasK es c then order else bif decide ((↑es.length : Int) ≥ 8) then order else bif vev44_1 lim != 0 then order else order ++ rev13_0 q lim t k order es ready c n
noncomputable def vev13_2 (q lim t k : Int) (order es ready : LL) (c n : Int) : LL := bif bif vev43_1 n != 0 then true else !vev42_0 c 0 2147483647 then es else bif hasK es c then es else bif decide ((↑es.length : Int) ≥ 8) then es else bif vev44_1 lim != 0 then es else es ++ [[iA c, iA c, iA (vev43_0 n), iA 0, iA 0, iA 0, iA (vev44_0 lim), AV.sl Tk.imm kI4 []]]
noncomputable def vev13_3 (q lim t k : Int) (order es ready : LL) (c n : Int) : Bool := bif bif vev43_1 n != 0 then true else !vev42_0 c 0 2147483647 then true else bif hasK es c then true else bif decide ((↑es.length : Int) ≥ 8) then true else bif vev44_1 lim != 0 then true else bif !hasK es c then bif bif decide ((order.length + (rev13_0 q lim t k order es ready c n).length) * 8 ≤ 140737488355328) then decide (order.length + (rev13_0 q lim t k order es ready c n).length ≤ 9223372036854775807) else false then true else false else false
theorem ev13 (q lim t k : Int) (order es ready : LL) (c n : Int) : evFun (cfg Try.prog tab 100000 (gk k34 30) noLsp 13 ((bS q lim ready t k order es) : List Blk).length Try.f13.ntmps) Try.f13 [.hp 0 0, iA c, iA n] (bS q lim ready t k order es) = bif vev13_3 q lim t k order es ready c n then some (iA (vev13_0 q lim t k order es ready c n), [bV q lim 3 4 ready t k, Blk.dead, Blk.dead, Blk.row kI1 (vev13_1 q lim t k order es ready c n), Blk.tbl kF (vev13_2 q lim t k order es ready c n) none]) else none := by
 refine Eq.trans (b := bif bif vev43_1 n != 0 then true else true then bif bif vev43_1 n != 0 then true else bif false then true else !vev42_0 c 0 2147483647 then some (iA 8, [bV q lim 3 4 ready t k, Blk.dead, Blk.dead, Blk.row kI1 order, Blk.tbl kF es none]) else bif hasK es c then some (iA 12, [bV q lim 3 4 ready t k, Blk.dead, Blk.dead, Blk.row kI1 order, Blk.tbl kF es none]) else bif decide ((↑es.length : Int) ≥ 8) then some (iA 7, [bV q lim 3 4 ready t k, Blk.dead, Blk.dead, Blk.row kI1 order, Blk.tbl kF es none]) else bif vev44_1 lim != 0 then some (iA (vev44_1 lim), [bV q lim 3 4 ready t k, Blk.dead, Blk.dead, Blk.row kI1 order, Blk.tbl kF es none]) else bif !hasK es c then bif bif decide ((order.length + (rev13_0 q lim t k order es ready c n).length) * 8 ≤ 140737488355328) then decide (order.length + (rev13_0 q lim t k order es ready c n).length ≤ 9223372036854775807) else false then some (iA 0, [bV q lim 3 4 ready t k, Blk.dead, Blk.dead, Blk.row kI1 (order ++ rev13_0 q lim t k order es ready c n), Blk.tbl kF (es ++ [[iA c, iA c, iA (vev43_0 n), iA 0, iA 0, iA 0, iA (vev44_0 lim), AV.sl Tk.imm kI4 []]]) none]) else none else none else none) (by kernel_rfl) ?_
 unfold vev13_0 vev13_1 vev13_2 vev13_3
 generalize (decide ((order.length + (rev13_0 q lim t k order es ready c n).length) * 8 ≤ 140737488355328)) = c0
 generalize (decide (order.length + (rev13_0 q lim t k order es ready c n).length ≤ 9223372036854775807)) = c1
 generalize (decide ((↑es.length : Int) ≥ 8)) = c2
 generalize (!vev42_0 _ _ _) = c3
 generalize (vev44_1 lim != 0) = c4
 generalize (vev43_1 n != 0) = c5
 generalize (!hasK es c) = c6
 generalize (hasK es c) = c7
 cases c5; cases c3; cases c7; cases c2; cases c4; cases c6; rfl; cases c0; rfl; cases c1; rfl; rfl; rfl; rfl; rfl; rfl; rfl
noncomputable def sp13 : Sp
 | [.hp 0 0, .int .i64 c, .int .i64 n], [.var [.int .i64 q, .int .i64 lim, .rf 1 [.int .i64], .mp 2 [.int .i64, .int .i64, .int .i64, .int .i64, .int .i64, .int .i64, .sl [.int .i64, .int .i64, .int .i64, .int .i64]], .sl .imm [.int .i64, .int .i64] ready, .int .i64 t, .int .i64 k], .row [.int .i64] order, .tbl [.int .i64, .int .i64, .int .i64, .int .i64, .int .i64, .int .i64, .sl [.int .i64, .int .i64, .int .i64, .int .i64]] es none] => spW (vev13_3 q lim t k order es ready c n) (fin Try.prog (tab.frz 13) ((bS q lim ready t k order es) : List Blk).length Try.f13.resultTypes.toList (some ((iA (vev13_0 q lim t k order es ready c n), [bV q lim 3 4 ready t k, Blk.dead, Blk.dead, Blk.row kI1 (vev13_1 q lim t k order es ready c n), Blk.tbl kF (vev13_2 q lim t k order es ready c n) none]))))
 | _, _ => none
noncomputable def k13 : Gam := spG 13 sp13 k34
theorem k13_ok : GamOK Try.prog k13 := spG_ok k34_ok fun T C r outs hs => by
   unfold sp13 at hs
   split at hs
   ·rename_i c n q lim ready t k order es
    obtain ⟨hb, hs⟩ := spW_inv hs
    have he := ev13 q lim t k order es ready c n
    rw [hb, cond_true] at he
    obtain ⟨h1, h2⟩ := fn_ok mixed plain (gk_ok k34_ok 30) Try.func13 (fun c _ => LoopsOK.none (fun _ _ => rfl) c) he
    exact ⟨h1, h2.fin hs⟩
   ·cases hs
noncomputable def rev15_0 (q lim t k : Int) (order es ready : LL) (c i n z : Int) : Int := intOf ((List.drop 1 (getK es c)).getD (0 + 1 + 1 + 1 + 1 + 1) AV.junk)
noncomputable def rev15_1 (q lim t k : Int) (order es ready : LL) (c i n z : Int) : LL := elsO ((List.drop 1 (getK es c)).getD (0 + 1 + 1 + 1 + 1 + 1 + 1) AV.junk)
noncomputable def rev15_2 (q lim t k : Int) (order es ready : LL) (c i n z : Int) : Int := vev47_1 (rev15_0 q lim t k order es ready c i n z) (rev15_1 q lim t k order es ready c i n z) i n z
noncomputable def rev15_3 (q lim t k : Int) (order es ready : LL) (c i n z : Int) : Int := IntKind.i64.wrap (IntKind.i64.wrap (1099511627776 - k) - vev34_0 q lim t k order es ready)
noncomputable def rev15_4 (q lim t k : Int) (order es ready : LL) (c i n z : Int) : Int := intOf ((List.drop 1 (getK es c)).getD (0 + 1) AV.junk)
noncomputable def rev15_5 (q lim t k : Int) (order es ready : LL) (c i n z : Int) : Int := intOf ((List.drop 1 (getK es c)).getD (0 + 1 + 1) AV.junk)
noncomputable def rev15_6 (q lim t k : Int) (order es ready : LL) (c i n z : Int) : Int := intOf ((List.drop 1 (getK es c)).getD (0 + 1 + 1 + 1) AV.junk)
noncomputable def rev15_7 (q lim t k : Int) (order es ready : LL) (c i n z : Int) : Int := intOf ((List.drop 1 (getK es c)).getD (0 + 1 + 1 + 1 + 1) AV.junk)
noncomputable def rev15_8 (q lim t k : Int) (order es ready : LL) (c i n z : Int) : LL := setK es c [iA c, iA (intOf ((List.drop 1 (getK es c)).getD 0 AV.junk)), iA (rev15_4 q lim t k order es ready c i n z), iA (vev49_0 t (rev15_4 q lim t k order es ready c i n z) (rev15_5 q lim t k order es ready c i n z) (rev15_6 q lim t k order es ready c i n z) (rev15_7 q lim t k order es ready c i n z)), iA (rev15_6 q lim t k order es ready c i n z), iA (rev15_7 q lim t k order es ready c i n z), iA (rev15_0 q lim t k order es ready c i n z), AV.sl Tk.imm kI4 (rev15_1 q lim t k order es ready c i n z)]
noncomputable def rev15_9 (q lim t k : Int) (order es ready : LL) (c i n z : Int) : Int := intOf ((List.drop 1 (getK (rev15_8 q lim t k order es ready c i n z) c)).getD (0 + 1 + 1) AV.junk)
noncomputable def vev15_0 (q lim t k : Int) (order es ready : LL) (c i n z : Int) : Int := bif hasK es c then bif rev15_2 q lim t k order es ready c i n z != 0 then rev15_2 q lim t k order es ready c i n z else bif decide (z > rev15_3 q lim t k order es ready c i n z) then 7 else 0 else 6
noncomputable def vev15_1 (q lim t k : Int) (order es ready : LL) (c i n z : Int) : LL := bif hasK es c then bif rev15_2 q lim t k order es ready c i n z != 0 then ready else bif decide (z > rev15_3 q lim t k order es ready c i n z) then ready else bif !vev48_0 c es then vev50_0 Tk.imm ready (rev15_9 q lim t k order es ready c i n z) c else ready else ready
noncomputable def vev15_2 (q lim t k : Int) (order es ready : LL) (c i n z : Int) : LL := bif hasK es c then bif rev15_2 q lim t k order es ready c i n z != 0 then es else bif decide (z > rev15_3 q lim t k order es ready c i n z) then es else bif !vev48_0 c es then setK (rev15_8 q lim t k order es ready c i n z) c [iA c, iA (intOf ((List.drop 1 (getK (rev15_8 q lim t k order es ready c i n z) c)).getD 0 AV.junk)), iA (intOf ((List.drop 1 (getK (rev15_8 q lim t k order es ready c i n z) c)).getD (0 + 1) AV.junk)), iA (rev15_9 q lim t k order es ready c i n z), iA (intOf ((List.drop 1 (getK (rev15_8 q lim t k order es ready c i n z) c)).getD (0 + 1 + 1 + 1) AV.junk)), iA (intOf ((List.drop 1 (getK (rev15_8 q lim t k order es ready c i n z) c)).getD (0 + 1 + 1 + 1 + 1) AV.junk)), iA (rev15_0 q lim t k order es ready c i n z), AV.sl Tk.imm kI4 (vev47_0 (rev15_0 q lim t k order es ready c i n z) (rev15_1 q lim t k order es ready c i n z) i n z)] else setK es c [iA c, iA (intOf ((List.drop 1 (getK es c)).getD 0 AV.junk)), iA (rev15_4 q lim t k order es ready c i n z), iA (rev15_5 q lim t k order es ready c i n z), iA (rev15_6 q lim t k order es ready c i n z), iA (rev15_7 q lim t k order es ready c i n z), iA (rev15_0 q lim t k order es ready c i n z), AV.sl Tk.imm kI4 (vev47_0 (rev15_0 q lim t k order es ready c i n z) (rev15_1 q lim t k order es ready c i n z) i n z)] else es
noncomputable def vev15_3 (q lim t k : Int) (order es ready : LL) (c i n z : Int) : Bool := bif hasK es c then bif vev47_2 (rev15_0 q lim t k order es ready c i n z) (rev15_1 q lim t k order es ready c i n z) i n z then bif rev15_2 q lim t k order es ready c i n z != 0 then true else bif vev34_1 q lim t k order es ready then bif decide (z > rev15_3 q lim t k order es ready c i n z) then true else bif vev48_1 c es then bif !vev48_0 c es then bif (List.brecOn.go (motive := fun x => (List AV → Bool) → Bool) (rev15_8 q lim t k order es ready c i n z) List.any._f).1 fun e => keyA e == c then bif vev50_1 Tk.imm ready (rev15_9 q lim t k order es ready c i n z) c then true else false else false else true else false else false else false else true
theorem ev15 (q lim t k : Int) (order es ready : LL) (c i n z : Int) : eF k13 noLsp 15 Try.f15 [.hp 0 0, iA c, iA i, iA n, iA z] (bS q lim ready t k order es) = bif vev15_3 q lim t k order es ready c i n z then some (true, iA (vev15_0 q lim t k order es ready c i n z), (bS q lim (vev15_1 q lim t k order es ready c i n z) t k order (vev15_2 q lim t k order es ready c i n z))) else none := by
 refine Eq.trans (b := bif hasK es c then bif hasK es c then bif vev47_2 (rev15_0 q lim t k order es ready c i n z) (rev15_1 q lim t k order es ready c i n z) i n z then bif rev15_2 q lim t k order es ready c i n z != 0 then some (true, iA (rev15_2 q lim t k order es ready c i n z), (bS q lim ready t k order es)) else bif vev34_1 q lim t k order es ready then bif decide (z > rev15_3 q lim t k order es ready c i n z) then some (true, iA 7, (bS q lim ready t k order es)) else bif vev48_1 c es then bif !vev48_0 c es then bif hasK es c then bif hasK es c then bif (List.brecOn.go (motive := fun x => (List AV → Bool) → Bool) (rev15_8 q lim t k order es ready c i n z) List.any._f).1 fun e => keyA e == c then bif vev50_1 Tk.imm ready (rev15_9 q lim t k order es ready c i n z) c then bif (List.brecOn.go (motive := fun x => (List AV → Bool) → Bool) (rev15_8 q lim t k order es ready c i n z) List.any._f).1 fun e => keyA e == c then some (true, iA 0, (bS q lim (vev50_0 Tk.imm ready (rev15_9 q lim t k order es ready c i n z) c) t k order (setK (rev15_8 q lim t k order es ready c i n z) c [iA c, iA (intOf ((List.drop 1 (getK (rev15_8 q lim t k order es ready c i n z) c)).getD 0 AV.junk)), iA (intOf ((List.drop 1 (getK (rev15_8 q lim t k order es ready c i n z) c)).getD (0 + 1) AV.junk)), iA (rev15_9 q lim t k order es ready c i n z), iA (intOf ((List.drop 1 (getK (rev15_8 q lim t k order es ready c i n z) c)).getD (0 + 1 + 1 + 1) AV.junk)), iA (intOf ((List.drop 1 (getK (rev15_8 q lim t k order es ready c i n z) c)).getD (0 + 1 + 1 + 1 + 1) AV.junk)), iA (rev15_0 q lim t k order es ready c i n z), AV.sl Tk.imm kI4 (vev47_0 (rev15_0 q lim t k order es ready c i n z) (rev15_1 q lim t k order es ready c i n z) i n z)]))) else none else none else none else none else none else bif hasK es c then some (true, iA 0, (bS q lim ready t k order (setK es c [iA c, iA (intOf ((List.drop 1 (getK es c)).getD 0 AV.junk)), iA (rev15_4 q lim t k order es ready c i n z), iA (rev15_5 q lim t k order es ready c i n z), iA (rev15_6 q lim t k order es ready c i n z), iA (rev15_7 q lim t k order es ready c i n z), iA (rev15_0 q lim t k order es ready c i n z), AV.sl Tk.imm kI4 (vev47_0 (rev15_0 q lim t k order es ready c i n z) (rev15_1 q lim t k order es ready c i n z) i n z)]))) else none else none else none else none else none else some (true, iA 6, (bS q lim ready t k order es))) (by kernel_rfl) ?_
 unfold vev15_0 vev15_1 vev15_2 vev15_3
 generalize ((List.brecOn.go (motive := fun x => (List AV → Bool) → Bool) (rev15_8 q lim t k order es ready c i n z) List.any._f).1 fun e => keyA e == c) = c0
 generalize (decide (z > rev15_3 q lim t k order es ready c i n z)) = c1
 generalize (vev47_2 _ _ _ _ _) = c2
 generalize (rev15_2 q lim t k order es ready c i n z != 0) = c3
 generalize (vev50_1 _ _ _ _) = c4
 generalize (vev34_1 _ _ _ _ _ _ _) = c5
 generalize (!vev48_0 _ _) = c6
 generalize (hasK es c) = c7
 generalize (vev48_1 _ _) = c8
 cases c7; rfl; cases c2; rfl; cases c3; cases c5; rfl; cases c1; cases c8; rfl; cases c6; rfl; cases c0; rfl; cases c4; rfl; rfl; rfl; rfl
noncomputable def sp15 : Sp
 | [.hp 0 0, .int .i64 c, .int .i64 i, .int .i64 n, .int .i64 z], [.var [.int .i64 q, .int .i64 lim, .rf 1 [.int .i64], .mp 2 [.int .i64, .int .i64, .int .i64, .int .i64, .int .i64, .int .i64, .sl [.int .i64, .int .i64, .int .i64, .int .i64]], .sl .imm [.int .i64, .int .i64] ready, .int .i64 t, .int .i64 k], .row [.int .i64] order, .tbl [.int .i64, .int .i64, .int .i64, .int .i64, .int .i64, .int .i64, .sl [.int .i64, .int .i64, .int .i64, .int .i64]] es none] => spW (vev15_3 q lim t k order es ready c i n z) (some ((true, iA (vev15_0 q lim t k order es ready c i n z), (bS q lim (vev15_1 q lim t k order es ready c i n z) t k order (vev15_2 q lim t k order es ready c i n z)))))
 | _, _ => none
noncomputable def k15 : Gam := spG 15 sp15 k13
theorem k15_ok : GamOK Try.prog k15 := spG_ok k13_ok fun T C r outs hs => by
   unfold sp15 at hs
   split at hs
   ·exact okE k13_ok Try.func15 (fun c _ => LoopsOK.none (fun _ _ => rfl) c) (ev15 _ _ _ _ _ _ _ _ _ _ _) hs
   ·cases hs
noncomputable def rev31_0 (q lim t k : Int) (order es ready : LL) : Int := intOf ((List.drop 1 (getK es (vev66_2 Tk.imm ready))).getD (0 + 1 + 1 + 1 + 1 + 1) AV.junk)
noncomputable def rev31_1 (q lim t k : Int) (order es ready : LL) : LL := elsO ((List.drop 1 (getK es (vev66_2 Tk.imm ready))).getD (0 + 1 + 1 + 1 + 1 + 1 + 1) AV.junk)
noncomputable def rev31_2 (q lim t k : Int) (order es ready : LL) : Int := intOf ((List.drop 1 (getK es (vev66_2 Tk.imm ready))).getD (0 + 1) AV.junk)
noncomputable def rev31_3 (q lim t k : Int) (order es ready : LL) : Int := intOf ((List.drop 1 (getK es (vev66_2 Tk.imm ready))).getD (0 + 1 + 1) AV.junk)
noncomputable def rev31_4 (q lim t k : Int) (order es ready : LL) : Int := intOf ((List.drop 1 (getK es (vev66_2 Tk.imm ready))).getD (0 + 1 + 1 + 1) AV.junk)
noncomputable def rev31_5 (q lim t k : Int) (order es ready : LL) : Int := intOf ((List.drop 1 (getK es (vev66_2 Tk.imm ready))).getD (0 + 1 + 1 + 1 + 1) AV.junk)
noncomputable def rev31_6 (q lim t k : Int) (order es ready : LL) : Int := vev67_5 (rev31_0 q lim t k order es ready) (rev31_1 q lim t k order es ready) q
noncomputable def rev31_7 (q lim t k : Int) (order es ready : LL) : LL := setK es (vev66_2 Tk.imm ready) [iA (vev66_2 Tk.imm ready), iA (intOf ((List.drop 1 (getK es (vev66_2 Tk.imm ready))).getD 0 AV.junk)), iA (rev31_2 q lim t k order es ready), iA (rev31_3 q lim t k order es ready), iA (rev31_4 q lim t k order es ready), iA (rev31_5 q lim t k order es ready), iA (rev31_0 q lim t k order es ready), AV.sl Tk.imm kI4 (vev67_0 (rev31_0 q lim t k order es ready) (rev31_1 q lim t k order es ready) q)]
noncomputable def rev31_8 (q lim t k : Int) (order es ready : LL) : Int := vev68_1 t (rev31_2 q lim t k order es ready) (rev31_3 q lim t k order es ready) (rev31_4 q lim t k order es ready) (rev31_5 q lim t k order es ready) (rev31_6 q lim t k order es ready)
noncomputable def rev31_9 (q lim t k : Int) (order es ready : LL) : LL := setK (rev31_7 q lim t k order es ready) (vev66_2 Tk.imm ready) [iA (vev66_2 Tk.imm ready), iA (intOf ((List.drop 1 (getK (rev31_7 q lim t k order es ready) (vev66_2 Tk.imm ready))).getD 0 AV.junk)), iA (rev31_2 q lim t k order es ready), iA (rev31_8 q lim t k order es ready), iA (vev68_2 t (rev31_2 q lim t k order es ready) (rev31_3 q lim t k order es ready) (rev31_4 q lim t k order es ready) (rev31_5 q lim t k order es ready) (rev31_6 q lim t k order es ready)), iA (vev68_3 t (rev31_2 q lim t k order es ready) (rev31_3 q lim t k order es ready) (rev31_4 q lim t k order es ready) (rev31_5 q lim t k order es ready) (rev31_6 q lim t k order es ready)), iA (intOf ((List.drop 1 (getK (rev31_7 q lim t k order es ready) (vev66_2 Tk.imm ready))).getD (0 + 1 + 1 + 1 + 1 + 1) AV.junk)), AV.sl Tk.imm kI4 (elsO ((List.drop 1 (getK (rev31_7 q lim t k order es ready) (vev66_2 Tk.imm ready))).getD (0 + 1 + 1 + 1 + 1 + 1 + 1) AV.junk))]
noncomputable def rev31_10 (q lim t k : Int) (order es ready : LL) : Int := intOf ((List.drop 1 (getK (rev31_9 q lim t k order es ready) (vev66_2 Tk.imm ready))).getD 0 AV.junk)
noncomputable def vev31_0 (q lim t k : Int) (order es ready : LL) : Int := bif !vev66_3 Tk.imm ready then 0 else bif vev68_4 t (rev31_2 q lim t k order es ready) (rev31_3 q lim t k order es ready) (rev31_4 q lim t k order es ready) (rev31_5 q lim t k order es ready) (rev31_6 q lim t k order es ready) != 0 then 0 else rev31_10 q lim t k order es ready
noncomputable def vev31_1 (q lim t k : Int) (order es ready : LL) : Int := bif !vev66_3 Tk.imm ready then 0 else bif vev68_4 t (rev31_2 q lim t k order es ready) (rev31_3 q lim t k order es ready) (rev31_4 q lim t k order es ready) (rev31_5 q lim t k order es ready) (rev31_6 q lim t k order es ready) != 0 then 0 else vev67_1 (rev31_0 q lim t k order es ready) (rev31_1 q lim t k order es ready) q
noncomputable def vev31_2 (q lim t k : Int) (order es ready : LL) : Int := bif !vev66_3 Tk.imm ready then 0 else bif vev68_4 t (rev31_2 q lim t k order es ready) (rev31_3 q lim t k order es ready) (rev31_4 q lim t k order es ready) (rev31_5 q lim t k order es ready) (rev31_6 q lim t k order es ready) != 0 then 0 else rev31_6 q lim t k order es ready
noncomputable def vev31_3 (q lim t k : Int) (order es ready : LL) : Int := bif !vev66_3 Tk.imm ready then 0 else bif vev68_4 t (rev31_2 q lim t k order es ready) (rev31_3 q lim t k order es ready) (rev31_4 q lim t k order es ready) (rev31_5 q lim t k order es ready) (rev31_6 q lim t k order es ready) != 0 then 0 else vev67_3 (rev31_0 q lim t k order es ready) (rev31_1 q lim t k order es ready) q
noncomputable def vev31_4 (q lim t k : Int) (order es ready : LL) : Bool := bif !vev66_3 Tk.imm ready then false else bif vev68_4 t (rev31_2 q lim t k order es ready) (rev31_3 q lim t k order es ready) (rev31_4 q lim t k order es ready) (rev31_5 q lim t k order es ready) (rev31_6 q lim t k order es ready) != 0 then false else true
noncomputable def vev31_5 (q lim t k : Int) (order es ready : LL) : LL := bif !vev66_3 Tk.imm ready then ready else bif vev68_4 t (rev31_2 q lim t k order es ready) (rev31_3 q lim t k order es ready) (rev31_4 q lim t k order es ready) (rev31_5 q lim t k order es ready) (rev31_6 q lim t k order es ready) != 0 then ready else bif vev48_0 (vev66_2 Tk.imm ready) (rev31_9 q lim t k order es ready) then vev50_0 Tk.imm (vev66_0 Tk.imm ready) (rev31_8 q lim t k order es ready) (rev31_10 q lim t k order es ready) else vev66_0 Tk.imm ready
noncomputable def vev31_6 (q lim t k : Int) (order es ready : LL) : Int := bif !vev66_3 Tk.imm ready then t else bif vev68_4 t (rev31_2 q lim t k order es ready) (rev31_3 q lim t k order es ready) (rev31_4 q lim t k order es ready) (rev31_5 q lim t k order es ready) (rev31_6 q lim t k order es ready) != 0 then t else vev68_0 t (rev31_2 q lim t k order es ready) (rev31_3 q lim t k order es ready) (rev31_4 q lim t k order es ready) (rev31_5 q lim t k order es ready) (rev31_6 q lim t k order es ready)
noncomputable def vev31_7 (q lim t k : Int) (order es ready : LL) : Int := bif !vev66_3 Tk.imm ready then k else bif vev68_4 t (rev31_2 q lim t k order es ready) (rev31_3 q lim t k order es ready) (rev31_4 q lim t k order es ready) (rev31_5 q lim t k order es ready) (rev31_6 q lim t k order es ready) != 0 then k else IntKind.i64.wrap (k + rev31_6 q lim t k order es ready)
noncomputable def vev31_8 (q lim t k : Int) (order es ready : LL) : LL := bif !vev66_3 Tk.imm ready then es else bif vev68_4 t (rev31_2 q lim t k order es ready) (rev31_3 q lim t k order es ready) (rev31_4 q lim t k order es ready) (rev31_5 q lim t k order es ready) (rev31_6 q lim t k order es ready) != 0 then es else rev31_9 q lim t k order es ready
noncomputable def vev31_9 (q lim t k : Int) (order es ready : LL) : Bool := bif vev66_4 Tk.imm ready then bif !vev66_3 Tk.imm ready then true else bif hasK es (vev66_2 Tk.imm ready) then bif vev67_6 (rev31_0 q lim t k order es ready) (rev31_1 q lim t k order es ready) q then bif vev68_5 t (rev31_2 q lim t k order es ready) (rev31_3 q lim t k order es ready) (rev31_4 q lim t k order es ready) (rev31_5 q lim t k order es ready) (rev31_6 q lim t k order es ready) then bif vev68_4 t (rev31_2 q lim t k order es ready) (rev31_3 q lim t k order es ready) (rev31_4 q lim t k order es ready) (rev31_5 q lim t k order es ready) (rev31_6 q lim t k order es ready) != 0 then true else bif (List.brecOn.go (motive := fun x => (List AV → Bool) → Bool) (rev31_7 q lim t k order es ready) List.any._f).1 fun e => keyA e == vev66_2 Tk.imm ready then bif vev48_1 (vev66_2 Tk.imm ready) (rev31_9 q lim t k order es ready) then bif vev48_0 (vev66_2 Tk.imm ready) (rev31_9 q lim t k order es ready) then bif (List.brecOn.go (motive := fun x => (List AV → Bool) → Bool) (rev31_9 q lim t k order es ready) List.any._f).1 fun e => keyA e == vev66_2 Tk.imm ready then bif vev50_1 Tk.imm (vev66_0 Tk.imm ready) (rev31_8 q lim t k order es ready) (rev31_10 q lim t k order es ready) then true else false else false else bif (List.brecOn.go (motive := fun x => (List AV → Bool) → Bool) (rev31_9 q lim t k order es ready) List.any._f).1 fun e => keyA e == vev66_2 Tk.imm ready then true else false else false else false else false else false else false else false
theorem ev31 (q lim t k : Int) (order es ready : LL) : eF k15 noLsp 31 Try.f31 [.hp 0 0] (bS q lim ready t k order es) = bif vev31_9 q lim t k order es ready then some (true, AV.tup [AV.agg [iA (vev31_0 q lim t k order es ready), iA (vev31_1 q lim t k order es ready), iA (vev31_2 q lim t k order es ready), iA (vev31_3 q lim t k order es ready)], AV.bool (vev31_4 q lim t k order es ready)], (bS q lim (vev31_5 q lim t k order es ready) (vev31_6 q lim t k order es ready) (vev31_7 q lim t k order es ready) order (vev31_8 q lim t k order es ready))) else none := by
 refine Eq.trans (b := bif vev66_4 Tk.imm ready then bif !vev66_3 Tk.imm ready then some (true, AV.tup [AV.agg [iA 0, iA 0, iA 0, iA 0], AV.bool false], (bS q lim ready t k order es)) else bif hasK es (vev66_2 Tk.imm ready) then bif hasK es (vev66_2 Tk.imm ready) then bif vev67_6 (rev31_0 q lim t k order es ready) (rev31_1 q lim t k order es ready) q then bif hasK es (vev66_2 Tk.imm ready) then bif vev68_5 t (rev31_2 q lim t k order es ready) (rev31_3 q lim t k order es ready) (rev31_4 q lim t k order es ready) (rev31_5 q lim t k order es ready) (rev31_6 q lim t k order es ready) then bif vev68_4 t (rev31_2 q lim t k order es ready) (rev31_3 q lim t k order es ready) (rev31_4 q lim t k order es ready) (rev31_5 q lim t k order es ready) (rev31_6 q lim t k order es ready) != 0 then some (true, AV.tup [AV.agg [iA 0, iA 0, iA 0, iA 0], AV.bool false], (bS q lim ready t k order es)) else bif hasK es (vev66_2 Tk.imm ready) then bif (List.brecOn.go (motive := fun x => (List AV → Bool) → Bool) (rev31_7 q lim t k order es ready) List.any._f).1 fun e => keyA e == vev66_2 Tk.imm ready then bif vev48_1 (vev66_2 Tk.imm ready) (rev31_9 q lim t k order es ready) then bif vev48_0 (vev66_2 Tk.imm ready) (rev31_9 q lim t k order es ready) then bif (List.brecOn.go (motive := fun x => (List AV → Bool) → Bool) (rev31_9 q lim t k order es ready) List.any._f).1 fun e => keyA e == vev66_2 Tk.imm ready then bif vev50_1 Tk.imm (vev66_0 Tk.imm ready) (rev31_8 q lim t k order es ready) (rev31_10 q lim t k order es ready) then bif (List.brecOn.go (motive := fun x => (List AV → Bool) → Bool) (rev31_9 q lim t k order es ready) List.any._f).1 fun e => keyA e == vev66_2 Tk.imm ready then some (true, AV.tup [AV.agg [iA (rev31_10 q lim t k order es ready), iA (vev67_1 (rev31_0 q lim t k order es ready) (rev31_1 q lim t k order es ready) q), iA (rev31_6 q lim t k order es ready), iA (vev67_3 (rev31_0 q lim t k order es ready) (rev31_1 q lim t k order es ready) q)], AV.bool true], (bS q lim (vev50_0 Tk.imm (vev66_0 Tk.imm ready) (rev31_8 q lim t k order es ready) (rev31_10 q lim t k order es ready)) (vev68_0 t (rev31_2 q lim t k order es ready) (rev31_3 q lim t k order es ready) (rev31_4 q lim t k order es ready) (rev31_5 q lim t k order es ready) (rev31_6 q lim t k order es ready)) (IntKind.i64.wrap (k + rev31_6 q lim t k order es ready)) order (rev31_9 q lim t k order es ready))) else none else none else none else bif (List.brecOn.go (motive := fun x => (List AV → Bool) → Bool) (rev31_9 q lim t k order es ready) List.any._f).1 fun e => keyA e == vev66_2 Tk.imm ready then some (true, AV.tup [AV.agg [iA (rev31_10 q lim t k order es ready), iA (vev67_1 (rev31_0 q lim t k order es ready) (rev31_1 q lim t k order es ready) q), iA (rev31_6 q lim t k order es ready), iA (vev67_3 (rev31_0 q lim t k order es ready) (rev31_1 q lim t k order es ready) q)], AV.bool true], (bS q lim (vev66_0 Tk.imm ready) (vev68_0 t (rev31_2 q lim t k order es ready) (rev31_3 q lim t k order es ready) (rev31_4 q lim t k order es ready) (rev31_5 q lim t k order es ready) (rev31_6 q lim t k order es ready)) (IntKind.i64.wrap (k + rev31_6 q lim t k order es ready)) order (rev31_9 q lim t k order es ready))) else none else none else none else none else none else none else none else none else none else none) (by kernel_rfl) ?_
 unfold vev31_0 vev31_1 vev31_2 vev31_3 vev31_4 vev31_5 vev31_6 vev31_7 vev31_8 vev31_9
 generalize (vev68_4 t (rev31_2 q lim t k order es ready) (rev31_3 q lim t k order es ready) (rev31_4 q lim t k order es ready) (rev31_5 q lim t k order es ready) (rev31_6 q lim t k order es ready) != 0) = c0
 generalize (vev68_5 _ _ _ _ _ _) = c1
 generalize ((List.brecOn.go (motive := fun x => (List AV → Bool) → Bool) (rev31_7 q lim t k order es ready) List.any._f).1 fun e => keyA e == vev66_2 Tk.imm ready) = c2
 generalize ((List.brecOn.go (motive := fun x => (List AV → Bool) → Bool) (rev31_9 q lim t k order es ready) List.any._f).1 fun e => keyA e == vev66_2 Tk.imm ready) = c3
 generalize (vev50_1 _ _ _ _) = c4
 generalize (vev67_6 _ _ _) = c5
 generalize (vev48_0 _ _) = c6
 generalize (vev48_1 _ _) = c7
 generalize (hasK es (vev66_2 Tk.imm ready)) = c8
 generalize (!vev66_3 _ _) = c9
 generalize (vev66_4 _ _) = c10
 cases c10; rfl; cases c9; cases c8; rfl; cases c5; rfl; cases c1; rfl; cases c0; cases c2; rfl; cases c7; rfl; cases c6; cases c3; rfl; rfl
 cases c3; rfl; cases c4; rfl; rfl; rfl; rfl
noncomputable def sp31 : Sp
 | [.hp 0 0], [.var [.int .i64 q, .int .i64 lim, .rf 1 [.int .i64], .mp 2 [.int .i64, .int .i64, .int .i64, .int .i64, .int .i64, .int .i64, .sl [.int .i64, .int .i64, .int .i64, .int .i64]], .sl .imm [.int .i64, .int .i64] ready, .int .i64 t, .int .i64 k], .row [.int .i64] order, .tbl [.int .i64, .int .i64, .int .i64, .int .i64, .int .i64, .int .i64, .sl [.int .i64, .int .i64, .int .i64, .int .i64]] es none] => spW (vev31_9 q lim t k order es ready) (some ((true, AV.tup [AV.agg [iA (vev31_0 q lim t k order es ready), iA (vev31_1 q lim t k order es ready), iA (vev31_2 q lim t k order es ready), iA (vev31_3 q lim t k order es ready)], AV.bool (vev31_4 q lim t k order es ready)], (bS q lim (vev31_5 q lim t k order es ready) (vev31_6 q lim t k order es ready) (vev31_7 q lim t k order es ready) order (vev31_8 q lim t k order es ready)))))
 | _, _ => none
noncomputable def k31 : Gam := spG 31 sp31 k15
theorem k31_ok : GamOK Try.prog k31 := spG_ok k15_ok fun T C r outs hs => by
   unfold sp31 at hs
   split at hs
   ·exact okE k15_ok Try.func31 (fun c _ => LoopsOK.none (fun _ _ => rfl) c) (ev31 _ _ _ _ _ _ _) hs
   ·cases hs
end Go.Proofs.Gv
namespace Go.Proofs.Gv
open Go.Proofs
noncomputable def vev12_0 (q l : Int) : Int := bif bif decide (q < 1) then true else bif decide (q > 1000) then true else bif decide (l < 1) then true else decide (l > 1000) then 0 else q
noncomputable def vev12_1 (q l : Int) : Int := bif bif decide (q < 1) then true else bif decide (q > 1000) then true else bif decide (l < 1) then true else decide (l > 1000) then 0 else l
noncomputable def vev12_2 (q l : Int) : Int := bif bif decide (q < 1) then true else bif decide (q > 1000) then true else bif decide (l < 1) then true else decide (l > 1000) then 8 else 0
theorem ev12 (q l : Int) : eF k31 noLsp 12 Try.f12 [iA q, iA l] [] = bif true then some (true, AV.tup [AV.agg [iA (vev12_0 q l), iA (vev12_1 q l), AV.sl Tk.imm kF [], iA 0, iA 0], iA (vev12_2 q l)], []) else none := by
 refine Eq.trans (b := bif bif decide (q < 1) then true else bif bif false then true else decide (q > 1000) then true else bif bif false then true else decide (l < 1) then true else true then bif bif decide (q < 1) then true else bif bif false then true else decide (q > 1000) then true else bif bif false then true else decide (l < 1) then true else bif false then true else decide (l > 1000) then some (true, AV.tup [AV.agg [iA 0, iA 0, AV.sl Tk.imm kF [], iA 0, iA 0], iA 8], []) else some (true, AV.tup [AV.agg [iA q, iA l, AV.sl Tk.imm kF [], iA 0, iA 0], iA 0], []) else none) (by kernel_rfl) ?_
 unfold vev12_0 vev12_1 vev12_2
 generalize (decide (l > 1000)) = c0
 generalize (decide (q < 1)) = c1
 generalize (decide (q > 1000)) = c2
 generalize (decide (l < 1)) = c3
 cases c1; cases c2; cases c3; cases c0; rfl; rfl; rfl; rfl; rfl
noncomputable def sp12 : Sp
 | [.int .i64 q, .int .i64 l], [] => spW (true) (some ((true, AV.tup [AV.agg [iA (vev12_0 q l), iA (vev12_1 q l), AV.sl Tk.imm kF [], iA 0, iA 0], iA (vev12_2 q l)], [])))
 | _, _ => none
noncomputable def k12 : Gam := spG 12 sp12 k31
theorem k12_ok : GamOK Try.prog k12 := spG_ok k31_ok fun T C r outs hs => by
   unfold sp12 at hs
   split at hs
   ·rename_i q l
    obtain ⟨hb, rfl, rfl⟩ := spT_inv hs
    have he := ev12 q l
    obtain ⟨r0, o0, h0, he⟩ := evFin_inv he
    obtain ⟨h1, h2⟩ := fn_ok mixed plain (gk_ok k31_ok 30) Try.func12 (fun c _ => LoopsOK.none (fun _ _ => rfl) c) h0
    exact ⟨h1, h2.fin he⟩
   ·cases hs
noncomputable def go46_2 (a b c d : Int) (h : Tk) (e : LL) (f g : Int) : Bool := bif decide (b < (↑e.length : Int)) then bif decide (0 ≤ b) && decide (b < (↑e.length : Int)) then bif intOf ((e.getD b.toNat []).getD 0 AV.junk) == a then false else true else false else false
noncomputable def nx46_2_1 (a b c d : Int) (h : Tk) (e : LL) (f g : Int) : Int := IntKind.i64.wrap (b + 1)
noncomputable def xc46_2_0 (a b c d : Int) (h : Tk) (e : LL) (f g : Int) : Bool := bif decide (b < (↑e.length : Int)) then bif decide (0 ≤ b) && decide (b < (↑e.length : Int)) then intOf ((e.getD b.toNat []).getD 0 AV.junk) == a else false else false
noncomputable def xc46_2_1 (a b c d : Int) (h : Tk) (e : LL) (f g : Int) : Bool := bif decide (b < (↑e.length : Int)) then false else true
theorem rd46_2 (rest : Lsp) (a b c d : Int) (i : Tk) (e : LL) (f g : Int) : rV k12 rest 46 0 Try.f46 2 [1, 2, 5] [0] [4] [] [iA a, AV.hp 0 0, iA b] [Blk.var [iA c, iA d, AV.sl i kF e, iA f, iA g]] = bif go46_2 a b c d i e f g then some (Ex.norm, [iA a, AV.hp 0 0, iA (nx46_2_1 a b c d i e f g)], [Blk.var [iA c, iA d, AV.sl i kF e, iA f, iA g]]) else bif xc46_2_0 a b c d i e f g then some (Ex.ret, [iA b], []) else bif xc46_2_1 a b c d i e f g then some (Ex.exit 0, [AV.junk], []) else none := by
 refine Eq.trans (b := bif decide (b < (↑e.length : Int)) then bif decide (0 ≤ b) && decide (b < (↑e.length : Int)) then bif intOf ((e.getD b.toNat []).getD 0 AV.junk) == a then some (Ex.ret, [iA b], []) else some (Ex.norm, [iA a, AV.hp 0 0, iA (IntKind.i64.wrap (b + 1))], [Blk.var [iA c, iA d, AV.sl i kF e, iA f, iA g]]) else none else some (Ex.exit 0, [AV.junk], [])) (by kernel_rfl) ?_
 unfold go46_2 nx46_2_1 xc46_2_0 xc46_2_1
 generalize (decide (0 ≤ b) && decide (b < (↑e.length : Int))) = c0
 generalize (intOf ((e.getD b.toNat []).getD 0 AV.junk) == a) = c1
 generalize (decide (b < (↑e.length : Int))) = c2
 cases c2; rfl; cases c0; rfl; cases c1; rfl; rfl
abbrev pl46_2 : Type := Int × Int × Int × Tk × LL × Int × Int
abbrev sl46_2 : Type := Int
noncomputable def vt46_2 (a : pl46_2 × sl46_2) : List AV := [iA a.1.1, AV.hp 0 0, iA a.2]
noncomputable def vc46_2 (a : pl46_2 × sl46_2) : List Blk := [Blk.var [iA a.1.2.1, iA a.1.2.2.1, AV.sl a.1.2.2.2.1 kF a.1.2.2.2.2.1, iA a.1.2.2.2.2.2.1, iA a.1.2.2.2.2.2.2]]
noncomputable def de46_2 (vt : List AV) (vc : List Blk) : Option (pl46_2 × sl46_2) :=
 match vt with
 | [qa0, qa1, qa2] => (match vc with
 | [qb0] => (match qa0 with
 | .int .i64 t1 => (match qa1 with
 | AV.hp (0) (0) => (match qa2 with
 | .int .i64 t5 => (match qb0 with
 | .var [.int .i64 b0_0, .int .i64 b0_1, .sl b0_2k [.int .i64, .int .i64, .int .i64, .int .i64, .int .i64, .int .i64, .sl [.int .i64, .int .i64, .int .i64, .int .i64]] b0_2, .int .i64 b0_3, .int .i64 b0_4] => (some ((t1, b0_0, b0_1, b0_2k, b0_2, b0_3, b0_4), t5))
 | _ => none)
 | _ => none)
 | _ => none)
 | _ => none)
 | _ => none)
 | _ => none
theorem de46_2_ok (vt : List AV) (vc : List Blk) (a : pl46_2 × sl46_2) (h : de46_2 vt vc = some a) : vt = vt46_2 a ∧ vc = vc46_2 a := by
 unfold de46_2 at h
 iterate 6 (split at h; rotate_left; · cases h)
 injection h with h; subst h; exact ⟨rfl, rfl⟩
noncomputable def g46_2 (p : pl46_2) (s : sl46_2) : Bool := go46_2 p.1 s p.2.1 p.2.2.1 p.2.2.2.1 p.2.2.2.2.1 p.2.2.2.2.2.1 p.2.2.2.2.2.2
noncomputable def n46_2 (p : pl46_2) (s : sl46_2) : sl46_2 := nx46_2_1 p.1 s p.2.1 p.2.2.1 p.2.2.2.1 p.2.2.2.2.1 p.2.2.2.2.2.1 p.2.2.2.2.2.2
noncomputable def y46_2 (p : pl46_2) (s : sl46_2) : List (Bool × Out) := [(xc46_2_0 p.1 s p.2.1 p.2.2.1 p.2.2.2.1 p.2.2.2.2.1 p.2.2.2.2.2.1 p.2.2.2.2.2.2, (Ex.ret, [iA s], []))]
noncomputable def z46_2 (p : pl46_2) (s : sl46_2) : Bool := xc46_2_1 p.1 s p.2.1 p.2.2.1 p.2.2.2.1 p.2.2.2.2.1 p.2.2.2.2.2.1 p.2.2.2.2.2.2
noncomputable def d46_2 (p : pl46_2) (s : sl46_2) : Out := (Ex.exit 0, [AV.junk], [])
noncomputable def ls46_2 := lspOf [1, 2, 5] [0] [4] [] Try.f46.ntmps (0 + tab.nid 46) de46_2 (spI g46_2 n46_2 y46_2 z46_2 d46_2)
theorem lo46_2 (rest : Lsp) : lO k12 (selL 2 ls46_2 rest) 46 0 Try.f46 2 := LoopOK1.iter (i := 2) (by kernel_rfl) [1, 2, 5] [0] [4] [] vt46_2 vc46_2 de46_2 g46_2 n46_2 y46_2 z46_2 d46_2 (fun _ => rfl) de46_2_ok (fun p s => rd46_2 (selL 2 ls46_2 rest) (p.1) s (p.2.1) (p.2.2.1) (p.2.2.2.1) (p.2.2.2.2.1) (p.2.2.2.2.2.1) (p.2.2.2.2.2.2)) (fun _ _ => rfl)
noncomputable def lsp46 : Lsp := (selL 2 ls46_2 noLsp)
theorem loops46 : ∀ c, Try.f46.body = some c → lsO k12 lsp46 46 0 Try.f46 c := loops_of [2] (by kernel_rfl) (by kernel_rfl) (fun i hi => by simp only [List.mem_cons, List.not_mem_nil, or_false] at hi; subst hi; exact lo46_2 noLsp)
noncomputable def rev46_0 (q lim t k : Int) (tk : Tk) (l : LL) (c : Int) : sl46_2 := finL (g46_2 (c, q, lim, tk, l, t, k)) (n46_2 (c, q, lim, tk, l, t, k)) 0
noncomputable def vev46_0 (q lim t k : Int) (tk : Tk) (l : LL) (c : Int) : sl46_2 := bif xc46_2_0 c (rev46_0 q lim t k tk l c) q lim tk l t k then rev46_0 q lim t k tk l c else (-1)
noncomputable def vev46_1 (q lim t k : Int) (tk : Tk) (l : LL) (c : Int) : Bool := bif (spI g46_2 n46_2 y46_2 z46_2 d46_2 ((c, q, lim, tk, l, t, k), 0)).fst then true else false
theorem ev46 (q lim t k : Int) (tk : Tk) (l : LL) (c : Int) : eF k12 lsp46 46 Try.f46 [.agg [iA q, iA lim, .sl tk kF l, iA t, iA k], iA c] [] = bif vev46_1 q lim t k tk l c then some (true, iA (vev46_0 q lim t k tk l c), []) else none := by
 refine Eq.trans (b := bif (spI g46_2 n46_2 y46_2 z46_2 d46_2 ((c, q, lim, tk, l, t, k), 0)).fst then bif xc46_2_0 c (rev46_0 q lim t k tk l c) q lim tk l t k then some (true, iA (rev46_0 q lim t k tk l c), []) else some (true, iA (-1), []) else none) (by kernel_rfl) ?_
 unfold vev46_0 vev46_1
 generalize (spI g46_2 _ _ _ _ _).fst = c0
 generalize (xc46_2_0 _ _ _ _ _ _ _ _) = c1
 cases c0; rfl; cases c1; rfl; rfl
noncomputable def sp46 : Sp
 | [.agg [.int .i64 q, .int .i64 lim, .sl tk [.int .i64, .int .i64, .int .i64, .int .i64, .int .i64, .int .i64, .sl [.int .i64, .int .i64, .int .i64, .int .i64]] l, .int .i64 t, .int .i64 k], .int .i64 c], [] => spW (vev46_1 q lim t k tk l c) (some ((true, iA (vev46_0 q lim t k tk l c), [])))
 | _, _ => none
noncomputable def k46 : Gam := spG 46 sp46 k12
theorem k46_ok : GamOK Try.prog k46 := spG_ok k12_ok fun T C r outs hs => by
   unfold sp46 at hs
   split at hs
   ·exact okE k12_ok Try.func46 loops46 (ev46 _ _ _ _ _ _ _) hs
   ·cases hs
noncomputable def rev54_0 (q lim t k : Int) (l : LL) (i fc fw fs ff fk fl : Int) (fe : LL) : LL := [[iA fc, iA fw, iA fs, iA ff, iA fk, iA fl, AV.sl Tk.imm kI4 fe]]
noncomputable def rev54_1 (q lim t k : Int) (l : LL) (i fc fw fs ff fk fl : Int) (fe : LL) : Int := IntKind.i64.wrap (i + 1)
noncomputable def rev54_2 (q lim t k : Int) (l : LL) (i fc fw fs ff fk fl : Int) (fe : LL) : LL := List.take i.toNat l ++ rev54_0 q lim t k l i fc fw fs ff fk fl fe
noncomputable def rev54_3 (q lim t k : Int) (l : LL) (i fc fw fs ff fk fl : Int) (fe : LL) : LL := List.drop (rev54_1 q lim t k l i fc fw fs ff fk fl fe).toNat l
noncomputable def vev54_0 (q lim t k : Int) (l : LL) (i fc fw fs ff fk fl : Int) (fe : LL) : LL := rev54_2 q lim t k l i fc fw fs ff fk fl fe ++ rev54_3 q lim t k l i fc fw fs ff fk fl fe
noncomputable def vev54_1 (q lim t k : Int) (l : LL) (i fc fw fs ff fk fl : Int) (fe : LL) : Bool := bif bnd 0 i (↑l.length : Int) then bif bif decide ((List.take i.toNat l).length * 72 ≤ 140737488355328) then decide ((List.take i.toNat l).length ≤ 9223372036854775807) else false then bif bif decide (((List.take i.toNat l).length + (rev54_0 q lim t k l i fc fw fs ff fk fl fe).length) * 72 ≤ 140737488355328) then decide ((List.take i.toNat l).length + (rev54_0 q lim t k l i fc fw fs ff fk fl fe).length ≤ 9223372036854775807) else false then bif bnd (rev54_1 q lim t k l i fc fw fs ff fk fl fe) (↑l.length : Int) (↑l.length : Int) then bif bif decide (((rev54_2 q lim t k l i fc fw fs ff fk fl fe).length + (rev54_3 q lim t k l i fc fw fs ff fk fl fe).length) * 72 ≤ 140737488355328) then decide ((rev54_2 q lim t k l i fc fw fs ff fk fl fe).length + (rev54_3 q lim t k l i fc fw fs ff fk fl fe).length ≤ 9223372036854775807) else false then true else false else false else false else false else false
theorem ev54 (q lim t k : Int) (l : LL) (i fc fw fs ff fk fl : Int) (fe : LL) : eF k46 noLsp 54 Try.f54 [.agg [iA q, iA lim, .sl .imm kF l, iA t, iA k], iA i, .agg [iA fc, iA fw, iA fs, iA ff, iA fk, iA fl, .sl .imm kI4 fe]] [] = bif vev54_1 q lim t k l i fc fw fs ff fk fl fe then some (true, AV.agg [iA q, iA lim, AV.sl Tk.imm kF (vev54_0 q lim t k l i fc fw fs ff fk fl fe), iA t, iA k], []) else none := by
 refine Eq.trans (b := bif bnd 0 i (↑l.length : Int) then bif bif decide ((List.take i.toNat l).length * 72 ≤ 140737488355328) then decide ((List.take i.toNat l).length ≤ 9223372036854775807) else false then bif bif decide (((List.take i.toNat l).length + (rev54_0 q lim t k l i fc fw fs ff fk fl fe).length) * 72 ≤ 140737488355328) then decide ((List.take i.toNat l).length + (rev54_0 q lim t k l i fc fw fs ff fk fl fe).length ≤ 9223372036854775807) else false then bif bnd (rev54_1 q lim t k l i fc fw fs ff fk fl fe) (↑l.length : Int) (↑l.length : Int) then bif bif decide (((rev54_2 q lim t k l i fc fw fs ff fk fl fe).length + (rev54_3 q lim t k l i fc fw fs ff fk fl fe).length) * 72 ≤ 140737488355328) then decide ((rev54_2 q lim t k l i fc fw fs ff fk fl fe).length + (rev54_3 q lim t k l i fc fw fs ff fk fl fe).length ≤ 9223372036854775807) else false then some (true, AV.agg [iA q, iA lim, AV.sl Tk.imm kF (rev54_2 q lim t k l i fc fw fs ff fk fl fe ++ rev54_3 q lim t k l i fc fw fs ff fk fl fe), iA t, iA k], []) else none else none else none else none else none) (by kernel_rfl) ?_
 unfold vev54_0 vev54_1
 generalize (decide (((rev54_2 q lim t k l i fc fw fs ff fk fl fe).length + (rev54_3 q lim t k l i fc fw fs ff fk fl fe).length) * 72 ≤ 140737488355328)) = c0
 generalize (decide (((List.take i.toNat l).length + (rev54_0 q lim t k l i fc fw fs ff fk fl fe).length) * 72 ≤ 140737488355328)) = c1
 generalize (decide ((rev54_2 q lim t k l i fc fw fs ff fk fl fe).length + (rev54_3 q lim t k l i fc fw fs ff fk fl fe).length ≤ 9223372036854775807)) = c2
 generalize (decide ((List.take i.toNat l).length + (rev54_0 q lim t k l i fc fw fs ff fk fl fe).length ≤ 9223372036854775807)) = c3
 generalize (decide ((List.take i.toNat l).length * 72 ≤ 140737488355328)) = c4
 generalize (decide ((List.take i.toNat l).length ≤ 9223372036854775807)) = c5
 generalize (bnd (rev54_1 q lim t k l i fc fw fs ff fk fl fe) (↑l.length : Int) (↑l.length : Int)) = c6
 generalize (bnd 0 i (↑l.length : Int)) = c7
 cases c7; rfl; cases c4; rfl; cases c5; rfl; cases c1; rfl; cases c3; rfl; cases c6; rfl; cases c0; rfl; cases c2; rfl; rfl
noncomputable def sp54 : Sp
 | [.agg [.int .i64 q, .int .i64 lim, .sl .imm [.int .i64, .int .i64, .int .i64, .int .i64, .int .i64, .int .i64, .sl [.int .i64, .int .i64, .int .i64, .int .i64]] l, .int .i64 t, .int .i64 k], .int .i64 i, .agg [.int .i64 fc, .int .i64 fw, .int .i64 fs, .int .i64 ff, .int .i64 fk, .int .i64 fl, .sl .imm [.int .i64, .int .i64, .int .i64, .int .i64] fe]], [] => spW (vev54_1 q lim t k l i fc fw fs ff fk fl fe) (some ((true, AV.agg [iA q, iA lim, AV.sl Tk.imm kF (vev54_0 q lim t k l i fc fw fs ff fk fl fe), iA t, iA k], [])))
 | _, _ => none
noncomputable def k54 : Gam := spG 54 sp54 k46
theorem k54_ok : GamOK Try.prog k54 := spG_ok k46_ok fun T C r outs hs => by
   unfold sp54 at hs
   split at hs
   ·exact okE k46_ok Try.func54 (fun c _ => LoopsOK.none (fun _ _ => rfl) c) (ev54 _ _ _ _ _ _ _ _ _ _ _ _ _) hs
   ·cases hs
noncomputable def rev14_0 (q lim t k : Int) (l : LL) (c n : Int) : sl46_2 := vev46_0 q lim t k Tk.imm l c
noncomputable def rev14_1 (q lim t k : Int) (l : LL) (c n : Int) : LL := [[iA c, iA (vev45_0 n), iA 0, iA 0, iA 0, iA lim, AV.nil]]
noncomputable def vev14_0 (q lim t k : Int) (l : LL) (c n : Int) : LL := bif bif decide (c < 0) then true else bif decide (c > 2147483647) then true else vev45_1 n != 0 then l else bif decide (rev14_0 q lim t k l c n ≥ 0) then l else bif decide ((↑l.length : Int) ≥ 8) then l else l ++ rev14_1 q lim t k l c n
noncomputable def vev14_1 (q lim t k : Int) (l : LL) (c n : Int) : Int := bif bif decide (c < 0) then true else bif decide (c > 2147483647) then true else vev45_1 n != 0 then 8 else bif decide (rev14_0 q lim t k l c n ≥ 0) then 12 else bif decide ((↑l.length : Int) ≥ 8) then 7 else 0
noncomputable def vev14_2 (q lim t k : Int) (l : LL) (c n : Int) : Bool := bif bif decide (c < 0) then true else bif decide (c > 2147483647) then true else vev45_1 n != 0 then true else bif vev46_1 q lim t k Tk.imm l c then bif decide (rev14_0 q lim t k l c n ≥ 0) then true else bif decide ((↑l.length : Int) ≥ 8) then true else bif bif decide (l.length * 72 ≤ 140737488355328) then decide (l.length ≤ 9223372036854775807) else false then bif bif decide ((l.length + (rev14_1 q lim t k l c n).length) * 72 ≤ 140737488355328) then decide (l.length + (rev14_1 q lim t k l c n).length ≤ 9223372036854775807) else false then true else false else false else false
theorem ev14 (q lim t k : Int) (l : LL) (c n : Int) : eF k54 noLsp 14 Try.f14 [.agg [iA q, iA lim, .sl .imm kF l, iA t, iA k], iA c, iA n] [] = bif vev14_2 q lim t k l c n then some (true, AV.tup [AV.agg [iA q, iA lim, AV.sl Tk.imm kF (vev14_0 q lim t k l c n), iA t, iA k], iA (vev14_1 q lim t k l c n)], []) else none := by
 refine Eq.trans (b := bif bif decide (c < 0) then true else bif bif false then true else decide (c > 2147483647) then true else true then bif bif decide (c < 0) then true else bif bif false then true else decide (c > 2147483647) then true else bif false then true else vev45_1 n != 0 then some (true, AV.tup [AV.agg [iA q, iA lim, AV.sl Tk.imm kF l, iA t, iA k], iA 8], []) else bif vev46_1 q lim t k Tk.imm l c then bif decide (rev14_0 q lim t k l c n ≥ 0) then some (true, AV.tup [AV.agg [iA q, iA lim, AV.sl Tk.imm kF l, iA t, iA k], iA 12], []) else bif decide ((↑l.length : Int) ≥ 8) then some (true, AV.tup [AV.agg [iA q, iA lim, AV.sl Tk.imm kF l, iA t, iA k], iA 7], []) else bif bif decide (l.length * 72 ≤ 140737488355328) then decide (l.length ≤ 9223372036854775807) else false then bif bif decide ((l.length + (rev14_1 q lim t k l c n).length) * 72 ≤ 140737488355328) then decide (l.length + (rev14_1 q lim t k l c n).length ≤ 9223372036854775807) else false then some (true, AV.tup [AV.agg [iA q, iA lim, AV.sl Tk.imm kF (l ++ rev14_1 q lim t k l c n), iA t, iA k], iA 0], []) else none else none else none else none) (by kernel_rfl) ?_
 unfold vev14_0 vev14_1 vev14_2
 generalize (decide ((l.length + (rev14_1 q lim t k l c n).length) * 72 ≤ 140737488355328)) = c0
 generalize (decide (l.length + (rev14_1 q lim t k l c n).length ≤ 9223372036854775807)) = c1
 generalize (decide (l.length * 72 ≤ 140737488355328)) = c2
 generalize (decide (rev14_0 q lim t k l c n ≥ 0)) = c3
 generalize (decide ((↑l.length : Int) ≥ 8)) = c4
 generalize (decide (l.length ≤ 9223372036854775807)) = c5
 generalize (decide (c > 2147483647)) = c6
 generalize (decide (c < 0)) = c7
 generalize (vev45_1 n != 0) = c8
 generalize (vev46_1 _ _ _ _ _ _ _) = c9
 cases c7; cases c6; cases c8; cases c9; rfl; cases c3; cases c4; cases c2; rfl; cases c5; rfl; cases c0; rfl; cases c1; rfl; rfl; rfl; rfl; rfl; rfl
 rfl
noncomputable def sp14 : Sp
 | [.agg [.int .i64 q, .int .i64 lim, .sl .imm [.int .i64, .int .i64, .int .i64, .int .i64, .int .i64, .int .i64, .sl [.int .i64, .int .i64, .int .i64, .int .i64]] l, .int .i64 t, .int .i64 k], .int .i64 c, .int .i64 n], [] => spW (vev14_2 q lim t k l c n) (some ((true, AV.tup [AV.agg [iA q, iA lim, AV.sl Tk.imm kF (vev14_0 q lim t k l c n), iA t, iA k], iA (vev14_1 q lim t k l c n)], [])))
 | _, _ => none
noncomputable def k14 : Gam := spG 14 sp14 k54
theorem k14_ok : GamOK Try.prog k14 := spG_ok k54_ok fun T C r outs hs => by
   unfold sp14 at hs
   split at hs
   ·exact okE k54_ok Try.func14 (fun c _ => LoopsOK.none (fun _ _ => rfl) c) (ev14 _ _ _ _ _ _ _) hs
   ·cases hs
noncomputable def rn52_3_0 (a b c d : Int) (h : Tk) (e : LL) (f g : Int) : Int := intOf ((e.getD b.toNat []).getD (0 + 1 + 1 + 1 + 1 + 1) AV.junk)
noncomputable def rn52_3_1 (a b c d : Int) (h : Tk) (e : LL) (f g : Int) : LL := elsO ((e.getD b.toNat []).getD (0 + 1 + 1 + 1 + 1 + 1 + 1) AV.junk)
noncomputable def go52_3 (a b c d : Int) (h : Tk) (e : LL) (f g : Int) : Bool := bif decide (b < (↑e.length : Int)) then bif decide (0 ≤ b) && decide (b < (↑e.length : Int)) then vev91_1 (rn52_3_0 a b c d h e f g) Tk.imm (rn52_3_1 a b c d h e f g) else false else false
noncomputable def nx52_3_0 (a b c d : Int) (h : Tk) (e : LL) (f g : Int) : Int := IntKind.i64.wrap (a + vev91_0 (rn52_3_0 a b c d h e f g) Tk.imm (rn52_3_1 a b c d h e f g))
noncomputable def nx52_3_1 (a b c d : Int) (h : Tk) (e : LL) (f g : Int) : Int := IntKind.i64.wrap (b + 1)
noncomputable def xc52_3_0 (a b c d : Int) (h : Tk) (e : LL) (f g : Int) : Bool := bif decide (b < (↑e.length : Int)) then false else true
theorem rd52_3 (rest : Lsp) (a b c d : Int) (i : Tk) (e : LL) (f g : Int) : rV k14 rest 52 0 Try.f52 3 [1, 3, 4] [0] [3] [] [AV.hp 0 0, iA a, iA b] [Blk.var [iA c, iA d, AV.sl i kF e, iA f, iA g]] = bif go52_3 a b c d i e f g then some (Ex.norm, [AV.hp 0 0, iA (nx52_3_0 a b c d i e f g), iA (nx52_3_1 a b c d i e f g)], [Blk.var [iA c, iA d, AV.sl i kF e, iA f, iA g]]) else bif xc52_3_0 a b c d i e f g then some (Ex.exit 0, [iA a], []) else none := by
 refine Eq.trans (b := bif decide (b < (↑e.length : Int)) then bif decide (0 ≤ b) && decide (b < (↑e.length : Int)) then bif vev91_1 (rn52_3_0 a b c d i e f g) Tk.imm (rn52_3_1 a b c d i e f g) then some (Ex.norm, [AV.hp 0 0, iA (IntKind.i64.wrap (a + vev91_0 (rn52_3_0 a b c d i e f g) Tk.imm (rn52_3_1 a b c d i e f g))), iA (IntKind.i64.wrap (b + 1))], [Blk.var [iA c, iA d, AV.sl i kF e, iA f, iA g]]) else none else none else some (Ex.exit 0, [iA a], [])) (by kernel_rfl) ?_
 unfold go52_3 nx52_3_0 nx52_3_1 xc52_3_0
 generalize (decide (0 ≤ b) && decide (b < (↑e.length : Int))) = c0
 generalize (decide (b < (↑e.length : Int))) = c1
 generalize (vev91_1 _ _ _) = c2
 cases c1; rfl; cases c0; rfl; cases c2; rfl; rfl
abbrev pl52_3 : Type := Int × Int × Tk × LL × Int × Int
abbrev sl52_3 : Type := Int × Int
noncomputable def vt52_3 (a : pl52_3 × sl52_3) : List AV := [AV.hp 0 0, iA a.2.1, iA a.2.2]
noncomputable def vc52_3 (a : pl52_3 × sl52_3) : List Blk := [Blk.var [iA a.1.1, iA a.1.2.1, AV.sl a.1.2.2.1 kF a.1.2.2.2.1, iA a.1.2.2.2.2.1, iA a.1.2.2.2.2.2]]
noncomputable def de52_3 (vt : List AV) (vc : List Blk) : Option (pl52_3 × sl52_3) :=
 match vt with
 | [qa0, qa1, qa2] => (match vc with
 | [qb0] => (match qa0 with
 | AV.hp (0) (0) => (match qa1 with
 | .int .i64 t3 => (match qa2 with
 | .int .i64 t4 => (match qb0 with
 | .var [.int .i64 b0_0, .int .i64 b0_1, .sl b0_2k [.int .i64, .int .i64, .int .i64, .int .i64, .int .i64, .int .i64, .sl [.int .i64, .int .i64, .int .i64, .int .i64]] b0_2, .int .i64 b0_3, .int .i64 b0_4] => (some ((b0_0, b0_1, b0_2k, b0_2, b0_3, b0_4), (t3, t4)))
 | _ => none)
 | _ => none)
 | _ => none)
 | _ => none)
 | _ => none)
 | _ => none
theorem de52_3_ok (vt : List AV) (vc : List Blk) (a : pl52_3 × sl52_3) (h : de52_3 vt vc = some a) : vt = vt52_3 a ∧ vc = vc52_3 a := by
 unfold de52_3 at h
 iterate 6 (split at h; rotate_left; · cases h)
 injection h with h; subst h; exact ⟨rfl, rfl⟩
noncomputable def g52_3 (p : pl52_3) (s : sl52_3) : Bool := go52_3 s.1 s.2 p.1 p.2.1 p.2.2.1 p.2.2.2.1 p.2.2.2.2.1 p.2.2.2.2.2
noncomputable def n52_3 (p : pl52_3) (s : sl52_3) : sl52_3 := (nx52_3_0 s.1 s.2 p.1 p.2.1 p.2.2.1 p.2.2.2.1 p.2.2.2.2.1 p.2.2.2.2.2, nx52_3_1 s.1 s.2 p.1 p.2.1 p.2.2.1 p.2.2.2.1 p.2.2.2.2.1 p.2.2.2.2.2)
noncomputable def y52_3 (p : pl52_3) (s : sl52_3) : List (Bool × Out) := []
noncomputable def z52_3 (p : pl52_3) (s : sl52_3) : Bool := xc52_3_0 s.1 s.2 p.1 p.2.1 p.2.2.1 p.2.2.2.1 p.2.2.2.2.1 p.2.2.2.2.2
noncomputable def d52_3 (p : pl52_3) (s : sl52_3) : Out := (Ex.exit 0, [iA s.1], [])
noncomputable def ls52_3 := lspOf [1, 3, 4] [0] [3] [] Try.f52.ntmps (0 + tab.nid 52) de52_3 (spI g52_3 n52_3 y52_3 z52_3 d52_3)
theorem lo52_3 (rest : Lsp) : lO k14 (selL 3 ls52_3 rest) 52 0 Try.f52 3 := LoopOK1.iter (i := 3) (by kernel_rfl) [1, 3, 4] [0] [3] [] vt52_3 vc52_3 de52_3 g52_3 n52_3 y52_3 z52_3 d52_3 (fun _ => rfl) de52_3_ok (fun p s => rd52_3 (selL 3 ls52_3 rest) (s.1) (s.2) (p.1) (p.2.1) (p.2.2.1) (p.2.2.2.1) (p.2.2.2.2.1) (p.2.2.2.2.2)) (fun _ _ => rfl)
noncomputable def lsp52 : Lsp := (selL 3 ls52_3 noLsp)
theorem loops52 : ∀ c, Try.f52.body = some c → lsO k14 lsp52 52 0 Try.f52 c := loops_of [3] (by kernel_rfl) (by kernel_rfl) (fun i hi => by simp only [List.mem_cons, List.not_mem_nil, or_false] at hi; subst hi; exact lo52_3 noLsp)
noncomputable def rev52_0 (q lim t k : Int) (tk : Tk) (l : LL) : sl52_3 := finL (g52_3 (q, lim, tk, l, t, k)) (n52_3 (q, lim, tk, l, t, k)) (0, 0)
noncomputable def vev52_0 (q lim t k : Int) (tk : Tk) (l : LL) : Int := (rev52_0 q lim t k tk l).fst
noncomputable def vev52_1 (q lim t k : Int) (tk : Tk) (l : LL) : Bool := bif (spI g52_3 n52_3 y52_3 z52_3 d52_3 ((q, lim, tk, l, t, k), 0, 0)).fst then true else false
theorem ev52 (q lim t k : Int) (tk : Tk) (l : LL) : eF k14 lsp52 52 Try.f52 [.agg [iA q, iA lim, .sl tk kF l, iA t, iA k]] [] = bif vev52_1 q lim t k tk l then some (true, iA (vev52_0 q lim t k tk l), []) else none := by
 refine Eq.trans (b := bif (spI g52_3 n52_3 y52_3 z52_3 d52_3 ((q, lim, tk, l, t, k), 0, 0)).fst then some (true, iA (rev52_0 q lim t k tk l).fst, []) else none) (by kernel_rfl) ?_
 unfold vev52_0 vev52_1
 generalize (spI g52_3 _ _ _ _ _).fst = c0
 cases c0
 ·skip
  rfl
 ·skip
  rfl
noncomputable def sp52 : Sp
 | [.agg [.int .i64 q, .int .i64 lim, .sl tk [.int .i64, .int .i64, .int .i64, .int .i64, .int .i64, .int .i64, .sl [.int .i64, .int .i64, .int .i64, .int .i64]] l, .int .i64 t, .int .i64 k]], [] => spW (vev52_1 q lim t k tk l) (some ((true, iA (vev52_0 q lim t k tk l), [])))
 | _, _ => none
noncomputable def k52 : Gam := spG 52 sp52 k14
theorem k52_ok : GamOK Try.prog k52 := spG_ok k14_ok fun T C r outs hs => by
   unfold sp52 at hs
   split at hs
   ·exact okE k14_ok Try.func52 loops52 (ev52 _ _ _ _ _ _) hs
   ·cases hs
noncomputable def rev16_0 (q lim t k : Int) (l : LL) (c i n z : Int) : sl46_2 := vev46_0 q lim t k Tk.imm l c
noncomputable def rev16_1 (q lim t k : Int) (l : LL) (c i n z : Int) : Int := intOf ((l.getD (Int.toNat (rev16_0 q lim t k l c i n z)) []).getD (0 + 1 + 1 + 1 + 1 + 1) AV.junk)
noncomputable def rev16_2 (q lim t k : Int) (l : LL) (c i n z : Int) : LL := elsO ((l.getD (Int.toNat (rev16_0 q lim t k l c i n z)) []).getD (0 + 1 + 1 + 1 + 1 + 1 + 1) AV.junk)
noncomputable def rev16_3 (q lim t k : Int) (l : LL) (c i n z : Int) : Int := vev51_1 (rev16_1 q lim t k l c i n z) (rev16_2 q lim t k l c i n z) i n z
noncomputable def rev16_4 (q lim t k : Int) (l : LL) (c i n z : Int) : Int := IntKind.i64.wrap (IntKind.i64.wrap (1099511627776 - k) - vev52_0 q lim t k Tk.imm l)
noncomputable def rev16_5 (q lim t k : Int) (l : LL) (c i n z : Int) : Int := intOf ((l.getD (Int.toNat (rev16_0 q lim t k l c i n z)) []).getD 0 AV.junk)
noncomputable def rev16_6 (q lim t k : Int) (l : LL) (c i n z : Int) : Int := intOf ((l.getD (Int.toNat (rev16_0 q lim t k l c i n z)) []).getD (0 + 1) AV.junk)
noncomputable def rev16_7 (q lim t k : Int) (l : LL) (c i n z : Int) : Int := intOf ((l.getD (Int.toNat (rev16_0 q lim t k l c i n z)) []).getD (0 + 1 + 1) AV.junk)
noncomputable def rev16_8 (q lim t k : Int) (l : LL) (c i n z : Int) : Int := intOf ((l.getD (Int.toNat (rev16_0 q lim t k l c i n z)) []).getD (0 + 1 + 1 + 1) AV.junk)
noncomputable def rev16_9 (q lim t k : Int) (l : LL) (c i n z : Int) : Int := intOf ((l.getD (Int.toNat (rev16_0 q lim t k l c i n z)) []).getD (0 + 1 + 1 + 1 + 1) AV.junk)
noncomputable def rev16_10 (q lim t k : Int) (l : LL) (c i n z : Int) : Int := vev53_0 t (rev16_6 q lim t k l c i n z) (rev16_7 q lim t k l c i n z) (rev16_8 q lim t k l c i n z) (rev16_9 q lim t k l c i n z)
noncomputable def rev16_11 (q lim t k : Int) (l : LL) (c i n z : Int) : LL := vev51_0 (rev16_1 q lim t k l c i n z) (rev16_2 q lim t k l c i n z) i n z
noncomputable def vev16_0 (q lim t k : Int) (l : LL) (c i n z : Int) : LL := bif decide (rev16_0 q lim t k l c i n z < 0) then l else bif rev16_3 q lim t k l c i n z != 0 then l else bif decide (z > rev16_4 q lim t k l c i n z) then l else bif (↑(rev16_2 q lim t k l c i n z).length : Int) == 0 then vev54_0 q lim t k l (rev16_0 q lim t k l c i n z) (rev16_5 q lim t k l c i n z) (rev16_6 q lim t k l c i n z) (rev16_10 q lim t k l c i n z) (rev16_8 q lim t k l c i n z) (rev16_9 q lim t k l c i n z) (rev16_1 q lim t k l c i n z) (rev16_11 q lim t k l c i n z) else vev54_0 q lim t k l (rev16_0 q lim t k l c i n z) (rev16_5 q lim t k l c i n z) (rev16_6 q lim t k l c i n z) (rev16_7 q lim t k l c i n z) (rev16_8 q lim t k l c i n z) (rev16_9 q lim t k l c i n z) (rev16_1 q lim t k l c i n z) (rev16_11 q lim t k l c i n z)
noncomputable def vev16_1 (q lim t k : Int) (l : LL) (c i n z : Int) : Int := bif decide (rev16_0 q lim t k l c i n z < 0) then 6 else bif rev16_3 q lim t k l c i n z != 0 then rev16_3 q lim t k l c i n z else bif decide (z > rev16_4 q lim t k l c i n z) then 7 else 0
noncomputable def vev16_2 (q lim t k : Int) (l : LL) (c i n z : Int) : Bool := bif vev46_1 q lim t k Tk.imm l c then bif decide (rev16_0 q lim t k l c i n z < 0) then true else bif decide (0 ≤ rev16_0 q lim t k l c i n z) && decide (rev16_0 q lim t k l c i n z < (↑l.length : Int)) then bif vev51_2 (rev16_1 q lim t k l c i n z) (rev16_2 q lim t k l c i n z) i n z then bif rev16_3 q lim t k l c i n z != 0 then true else bif vev52_1 q lim t k Tk.imm l then bif decide (z > rev16_4 q lim t k l c i n z) then true else bif (↑(rev16_2 q lim t k l c i n z).length : Int) == 0 then bif vev54_1 q lim t k l (rev16_0 q lim t k l c i n z) (rev16_5 q lim t k l c i n z) (rev16_6 q lim t k l c i n z) (rev16_10 q lim t k l c i n z) (rev16_8 q lim t k l c i n z) (rev16_9 q lim t k l c i n z) (rev16_1 q lim t k l c i n z) (rev16_11 q lim t k l c i n z) then true else false else bif vev54_1 q lim t k l (rev16_0 q lim t k l c i n z) (rev16_5 q lim t k l c i n z) (rev16_6 q lim t k l c i n z) (rev16_7 q lim t k l c i n z) (rev16_8 q lim t k l c i n z) (rev16_9 q lim t k l c i n z) (rev16_1 q lim t k l c i n z) (rev16_11 q lim t k l c i n z) then true else false else false else false else false else false
theorem ev16 (q lim t k : Int) (l : LL) (c i n z : Int) : eF k52 noLsp 16 Try.f16 [.agg [iA q, iA lim, .sl .imm kF l, iA t, iA k], iA c, iA i, iA n, iA z] [] = bif vev16_2 q lim t k l c i n z then some (true, AV.tup [AV.agg [iA q, iA lim, AV.sl Tk.imm kF (vev16_0 q lim t k l c i n z), iA t, iA k], iA (vev16_1 q lim t k l c i n z)], []) else none := by
 refine Eq.trans (b := bif vev46_1 q lim t k Tk.imm l c then bif decide (rev16_0 q lim t k l c i n z < 0) then some (true, AV.tup [AV.agg [iA q, iA lim, AV.sl Tk.imm kF l, iA t, iA k], iA 6], []) else bif decide (0 ≤ rev16_0 q lim t k l c i n z) && decide (rev16_0 q lim t k l c i n z < (↑l.length : Int)) then bif vev51_2 (rev16_1 q lim t k l c i n z) (rev16_2 q lim t k l c i n z) i n z then bif rev16_3 q lim t k l c i n z != 0 then some (true, AV.tup [AV.agg [iA q, iA lim, AV.sl Tk.imm kF l, iA t, iA k], iA (rev16_3 q lim t k l c i n z)], []) else bif vev52_1 q lim t k Tk.imm l then bif decide (z > rev16_4 q lim t k l c i n z) then some (true, AV.tup [AV.agg [iA q, iA lim, AV.sl Tk.imm kF l, iA t, iA k], iA 7], []) else bif (↑(rev16_2 q lim t k l c i n z).length : Int) == 0 then bif vev54_1 q lim t k l (rev16_0 q lim t k l c i n z) (rev16_5 q lim t k l c i n z) (rev16_6 q lim t k l c i n z) (rev16_10 q lim t k l c i n z) (rev16_8 q lim t k l c i n z) (rev16_9 q lim t k l c i n z) (rev16_1 q lim t k l c i n z) (rev16_11 q lim t k l c i n z) then some (true, AV.tup [AV.agg [iA q, iA lim, AV.sl Tk.imm kF (vev54_0 q lim t k l (rev16_0 q lim t k l c i n z) (rev16_5 q lim t k l c i n z) (rev16_6 q lim t k l c i n z) (rev16_10 q lim t k l c i n z) (rev16_8 q lim t k l c i n z) (rev16_9 q lim t k l c i n z) (rev16_1 q lim t k l c i n z) (rev16_11 q lim t k l c i n z)), iA t, iA k], iA 0], []) else none else bif vev54_1 q lim t k l (rev16_0 q lim t k l c i n z) (rev16_5 q lim t k l c i n z) (rev16_6 q lim t k l c i n z) (rev16_7 q lim t k l c i n z) (rev16_8 q lim t k l c i n z) (rev16_9 q lim t k l c i n z) (rev16_1 q lim t k l c i n z) (rev16_11 q lim t k l c i n z) then some (true, AV.tup [AV.agg [iA q, iA lim, AV.sl Tk.imm kF (vev54_0 q lim t k l (rev16_0 q lim t k l c i n z) (rev16_5 q lim t k l c i n z) (rev16_6 q lim t k l c i n z) (rev16_7 q lim t k l c i n z) (rev16_8 q lim t k l c i n z) (rev16_9 q lim t k l c i n z) (rev16_1 q lim t k l c i n z) (rev16_11 q lim t k l c i n z)), iA t, iA k], iA 0], []) else none else none else none else none else none) (by kernel_rfl) ?_
 unfold vev16_0 vev16_1 vev16_2
 generalize (vev54_1 q lim t k l (rev16_0 q lim t k l c i n z) (rev16_5 q lim t k l c i n z) (rev16_6 q lim t k l c i n z) (rev16_10 q lim t k l c i n z) (rev16_8 q lim t k l c i n z) (rev16_9 q lim t k l c i n z) (rev16_1 q lim t k l c i n z) (rev16_11 q lim t k l c i n z)) = c0
 generalize (vev54_1 q lim t k l (rev16_0 q lim t k l c i n z) (rev16_5 q lim t k l c i n z) (rev16_6 q lim t k l c i n z) (rev16_7 q lim t k l c i n z) (rev16_8 q lim t k l c i n z) (rev16_9 q lim t k l c i n z) (rev16_1 q lim t k l c i n z) (rev16_11 q lim t k l c i n z)) = c1
 generalize (decide (0 ≤ rev16_0 q lim t k l c i n z) && decide (rev16_0 q lim t k l c i n z < (↑l.length : Int))) = c2
 generalize (decide (rev16_0 q lim t k l c i n z < 0)) = c3
 generalize (decide (z > rev16_4 q lim t k l c i n z)) = c4
 generalize ((↑(rev16_2 q lim t k l c i n z).length : Int) == 0) = c5
 generalize (vev51_2 _ _ _ _ _) = c6
 generalize (rev16_3 q lim t k l c i n z != 0) = c7
 generalize (vev46_1 _ _ _ _ _ _ _) = c8
 generalize (vev52_1 _ _ _ _ _ _) = c9
 cases c8; rfl; cases c3; cases c2; rfl; cases c6; rfl; cases c7; cases c9; rfl; cases c4; cases c5; cases c1; rfl; rfl; cases c0; rfl; rfl; rfl; rfl
 rfl
noncomputable def sp16 : Sp
 | [.agg [.int .i64 q, .int .i64 lim, .sl .imm [.int .i64, .int .i64, .int .i64, .int .i64, .int .i64, .int .i64, .sl [.int .i64, .int .i64, .int .i64, .int .i64]] l, .int .i64 t, .int .i64 k], .int .i64 c, .int .i64 i, .int .i64 n, .int .i64 z], [] => spW (vev16_2 q lim t k l c i n z) (some ((true, AV.tup [AV.agg [iA q, iA lim, AV.sl Tk.imm kF (vev16_0 q lim t k l c i n z), iA t, iA k], iA (vev16_1 q lim t k l c i n z)], [])))
 | _, _ => none
noncomputable def k16 : Gam := spG 16 sp16 k52
theorem k16_ok : GamOK Try.prog k16 := spG_ok k52_ok fun T C r outs hs => by
   unfold sp16 at hs
   split at hs
   ·exact okE k52_ok Try.func16 (fun c _ => LoopsOK.none (fun _ _ => rfl) c) (ev16 _ _ _ _ _ _ _ _ _) hs
   ·cases hs
noncomputable def rn69_3_0 (a b c d : Int) (h : Tk) (e : LL) (f g : Int) : Int := intOf ((e.getD b.toNat []).getD (0 + 1 + 1) AV.junk)
noncomputable def rn69_3_1 (a b c d : Int) (h : Tk) (e : LL) (f g : Int) : Int := intOf ((e.getD a.toNat []).getD (0 + 1 + 1) AV.junk)
noncomputable def rn69_3_2 (a b c d : Int) (h : Tk) (e : LL) (f g : Int) : Int := intOf ((e.getD b.toNat []).getD 0 AV.junk)
noncomputable def rn69_3_3 (a b c d : Int) (h : Tk) (e : LL) (f g : Int) : Int := intOf ((e.getD a.toNat []).getD 0 AV.junk)
noncomputable def go69_3 (a b c d : Int) (h : Tk) (e : LL) (f g : Int) : Bool := bif decide (b < (↑e.length : Int)) then bif decide (0 ≤ b) && decide (b < (↑e.length : Int)) then bif (↑(elsO ((e.getD b.toNat []).getD (0 + 1 + 1 + 1 + 1 + 1 + 1) AV.junk)).length : Int) == 0 then true else bif decide (a < 0) then true else bif decide (0 ≤ b) && decide (b < (↑e.length : Int)) then bif decide (0 ≤ a) && decide (a < (↑e.length : Int)) then bif decide (rn69_3_0 a b c d h e f g < rn69_3_1 a b c d h e f g) then true else bif decide (0 ≤ b) && decide (b < (↑e.length : Int)) then bif decide (0 ≤ a) && decide (a < (↑e.length : Int)) then bif rn69_3_0 a b c d h e f g == rn69_3_1 a b c d h e f g then bif decide (0 ≤ b) && decide (b < (↑e.length : Int)) then decide (0 ≤ a) && decide (a < (↑e.length : Int)) else false else true else false else false else false else false else false else false
noncomputable def nx69_3_0 (a b c d : Int) (h : Tk) (e : LL) (f g : Int) : Int := bif (↑(elsO ((e.getD b.toNat []).getD (0 + 1 + 1 + 1 + 1 + 1 + 1) AV.junk)).length : Int) == 0 then a else bif bif decide (a < 0) then true else bif decide (0 ≤ b) && decide (b < (↑e.length : Int)) then bif decide (0 ≤ a) && decide (a < (↑e.length : Int)) then bif decide (rn69_3_0 a b c d h e f g < rn69_3_1 a b c d h e f g) then true else bif decide (0 ≤ b) && decide (b < (↑e.length : Int)) then bif decide (0 ≤ a) && decide (a < (↑e.length : Int)) then bif rn69_3_0 a b c d h e f g == rn69_3_1 a b c d h e f g then bif decide (0 ≤ b) && decide (b < (↑e.length : Int)) then bif decide (0 ≤ a) && decide (a < (↑e.length : Int)) then decide (rn69_3_2 a b c d h e f g < rn69_3_3 a b c d h e f g) else false else false else false else false else false else false else false then b else a
noncomputable def nx69_3_1 (a b c d : Int) (h : Tk) (e : LL) (f g : Int) : Int := IntKind.i64.wrap (b + 1)
noncomputable def xc69_3_0 (a b c d : Int) (h : Tk) (e : LL) (f g : Int) : Bool := bif decide (b < (↑e.length : Int)) then false else true
theorem rd69_3 (rest : Lsp) (a b c d : Int) (i : Tk) (e : LL) (f g : Int) : rV k16 rest 69 0 Try.f69 3 [1, 3, 4] [0] [3] [] [AV.hp 0 0, iA a, iA b] [Blk.var [iA c, iA d, AV.sl i kF e, iA f, iA g]] = bif go69_3 a b c d i e f g then some (Ex.norm, [AV.hp 0 0, iA (nx69_3_0 a b c d i e f g), iA (nx69_3_1 a b c d i e f g)], [Blk.var [iA c, iA d, AV.sl i kF e, iA f, iA g]]) else bif xc69_3_0 a b c d i e f g then some (Ex.exit 0, [iA a], []) else none := by
 refine Eq.trans (b := bif decide (b < (↑e.length : Int)) then bif decide (0 ≤ b) && decide (b < (↑e.length : Int)) then bif (↑(elsO ((e.getD b.toNat []).getD (0 + 1 + 1 + 1 + 1 + 1 + 1) AV.junk)).length : Int) == 0 then some (Ex.norm, [AV.hp 0 0, iA a, iA (IntKind.i64.wrap (b + 1))], [Blk.var [iA c, iA d, AV.sl i kF e, iA f, iA g]]) else bif bif decide (a < 0) then true else bif decide (0 ≤ b) && decide (b < (↑e.length : Int)) then bif decide (0 ≤ a) && decide (a < (↑e.length : Int)) then bif bif false then true else decide (rn69_3_0 a b c d i e f g < rn69_3_1 a b c d i e f g) then true else bif decide (0 ≤ b) && decide (b < (↑e.length : Int)) then bif decide (0 ≤ a) && decide (a < (↑e.length : Int)) then bif rn69_3_0 a b c d i e f g == rn69_3_1 a b c d i e f g then bif decide (0 ≤ b) && decide (b < (↑e.length : Int)) then bif decide (0 ≤ a) && decide (a < (↑e.length : Int)) then true else false else false else true else false else false else false else false then bif bif decide (a < 0) then true else bif decide (0 ≤ b) && decide (b < (↑e.length : Int)) then bif decide (0 ≤ a) && decide (a < (↑e.length : Int)) then bif bif false then true else decide (rn69_3_0 a b c d i e f g < rn69_3_1 a b c d i e f g) then true else bif decide (0 ≤ b) && decide (b < (↑e.length : Int)) then bif decide (0 ≤ a) && decide (a < (↑e.length : Int)) then bif rn69_3_0 a b c d i e f g == rn69_3_1 a b c d i e f g then bif decide (0 ≤ b) && decide (b < (↑e.length : Int)) then bif decide (0 ≤ a) && decide (a < (↑e.length : Int)) then bif false then true else bif true then decide (rn69_3_2 a b c d i e f g < rn69_3_3 a b c d i e f g) else false else false else false else bif false then true else false else false else false else false else false then some (Ex.norm, [AV.hp 0 0, iA b, iA (IntKind.i64.wrap (b + 1))], [Blk.var [iA c, iA d, AV.sl i kF e, iA f, iA g]]) else some (Ex.norm, [AV.hp 0 0, iA a, iA (IntKind.i64.wrap (b + 1))], [Blk.var [iA c, iA d, AV.sl i kF e, iA f, iA g]]) else none else none else some (Ex.exit 0, [iA a], [])) (by kernel_rfl) ?_
 unfold go69_3 nx69_3_0 nx69_3_1 xc69_3_0
 generalize ((↑(elsO ((e.getD b.toNat []).getD (0 + 1 + 1 + 1 + 1 + 1 + 1) AV.junk)).length : Int) == 0) = c0
 generalize (decide (rn69_3_2 a b c d i e f g < rn69_3_3 a b c d i e f g)) = c1
 generalize (decide (rn69_3_0 a b c d i e f g < rn69_3_1 a b c d i e f g)) = c2
 generalize (decide (0 ≤ a) && decide (a < (↑e.length : Int))) = c3
 generalize (decide (0 ≤ b) && decide (b < (↑e.length : Int))) = c4
 generalize (rn69_3_0 a b c d i e f g == rn69_3_1 a b c d i e f g) = c5
 generalize (decide (b < (↑e.length : Int))) = c6
 generalize (decide (a < 0)) = c7
 cases c6; rfl; cases c4; rfl; cases c0; cases c7; cases c3; rfl; cases c2; cases c5; rfl; cases c1; rfl; rfl; rfl; rfl; rfl
abbrev pl69_3 : Type := Int × Int × Tk × LL × Int × Int
abbrev sl69_3 : Type := Int × Int
noncomputable def vt69_3 (a : pl69_3 × sl69_3) : List AV := [AV.hp 0 0, iA a.2.1, iA a.2.2]
noncomputable def vc69_3 (a : pl69_3 × sl69_3) : List Blk := [Blk.var [iA a.1.1, iA a.1.2.1, AV.sl a.1.2.2.1 kF a.1.2.2.2.1, iA a.1.2.2.2.2.1, iA a.1.2.2.2.2.2]]
noncomputable def de69_3 (vt : List AV) (vc : List Blk) : Option (pl69_3 × sl69_3) :=
 match vt with
 | [qa0, qa1, qa2] => (match vc with
 | [qb0] => (match qa0 with
 | AV.hp (0) (0) => (match qa1 with
 | .int .i64 t3 => (match qa2 with
 | .int .i64 t4 => (match qb0 with
 | .var [.int .i64 b0_0, .int .i64 b0_1, .sl b0_2k [.int .i64, .int .i64, .int .i64, .int .i64, .int .i64, .int .i64, .sl [.int .i64, .int .i64, .int .i64, .int .i64]] b0_2, .int .i64 b0_3, .int .i64 b0_4] => (some ((b0_0, b0_1, b0_2k, b0_2, b0_3, b0_4), (t3, t4)))
 | _ => none)
 | _ => none)
 | _ => none)
 | _ => none)
 | _ => none)
 | _ => none
theorem de69_3_ok (vt : List AV) (vc : List Blk) (a : pl69_3 × sl69_3) (h : de69_3 vt vc = some a) : vt = vt69_3 a ∧ vc = vc69_3 a := by
 unfold de69_3 at h
 iterate 6 (split at h; rotate_left; · cases h)
 injection h with h; subst h; exact ⟨rfl, rfl⟩
noncomputable def g69_3 (p : pl69_3) (s : sl69_3) : Bool := go69_3 s.1 s.2 p.1 p.2.1 p.2.2.1 p.2.2.2.1 p.2.2.2.2.1 p.2.2.2.2.2
noncomputable def n69_3 (p : pl69_3) (s : sl69_3) : sl69_3 := (nx69_3_0 s.1 s.2 p.1 p.2.1 p.2.2.1 p.2.2.2.1 p.2.2.2.2.1 p.2.2.2.2.2, nx69_3_1 s.1 s.2 p.1 p.2.1 p.2.2.1 p.2.2.2.1 p.2.2.2.2.1 p.2.2.2.2.2)
noncomputable def y69_3 (p : pl69_3) (s : sl69_3) : List (Bool × Out) := []
noncomputable def z69_3 (p : pl69_3) (s : sl69_3) : Bool := xc69_3_0 s.1 s.2 p.1 p.2.1 p.2.2.1 p.2.2.2.1 p.2.2.2.2.1 p.2.2.2.2.2
noncomputable def d69_3 (p : pl69_3) (s : sl69_3) : Out := (Ex.exit 0, [iA s.1], [])
noncomputable def ls69_3 := lspOf [1, 3, 4] [0] [3] [] Try.f69.ntmps (0 + tab.nid 69) de69_3 (spI g69_3 n69_3 y69_3 z69_3 d69_3)
theorem lo69_3 (rest : Lsp) : lO k16 (selL 3 ls69_3 rest) 69 0 Try.f69 3 := LoopOK1.iter (i := 3) (by kernel_rfl) [1, 3, 4] [0] [3] [] vt69_3 vc69_3 de69_3 g69_3 n69_3 y69_3 z69_3 d69_3 (fun _ => rfl) de69_3_ok (fun p s => rd69_3 (selL 3 ls69_3 rest) (s.1) (s.2) (p.1) (p.2.1) (p.2.2.1) (p.2.2.2.1) (p.2.2.2.2.1) (p.2.2.2.2.2)) (fun _ _ => rfl)
noncomputable def lsp69 : Lsp := (selL 3 ls69_3 noLsp)
theorem loops69 : ∀ c, Try.f69.body = some c → lsO k16 lsp69 69 0 Try.f69 c := loops_of [3] (by kernel_rfl) (by kernel_rfl) (fun i hi => by simp only [List.mem_cons, List.not_mem_nil, or_false] at hi; subst hi; exact lo69_3 noLsp)
noncomputable def rev69_0 (q lim t k : Int) (tk : Tk) (l : LL) : sl69_3 := finL (g69_3 (q, lim, tk, l, t, k)) (n69_3 (q, lim, tk, l, t, k)) ((-1), 0)
noncomputable def vev69_0 (q lim t k : Int) (tk : Tk) (l : LL) : Int := (rev69_0 q lim t k tk l).fst
noncomputable def vev69_1 (q lim t k : Int) (tk : Tk) (l : LL) : Bool := bif (spI g69_3 n69_3 y69_3 z69_3 d69_3 ((q, lim, tk, l, t, k), (-1), 0)).fst then true else false
theorem ev69 (q lim t k : Int) (tk : Tk) (l : LL) : eF k16 lsp69 69 Try.f69 [.agg [iA q, iA lim, .sl tk kF l, iA t, iA k]] [] = bif vev69_1 q lim t k tk l then some (true, iA (vev69_0 q lim t k tk l), []) else none := by
 refine Eq.trans (b := bif (spI g69_3 n69_3 y69_3 z69_3 d69_3 ((q, lim, tk, l, t, k), (-1), 0)).fst then some (true, iA (rev69_0 q lim t k tk l).fst, []) else none) (by kernel_rfl) ?_
 unfold vev69_0 vev69_1
 generalize (spI g69_3 _ _ _ _ _).fst = c0
 cases c0
 ·skip
  rfl
 ·skip
  rfl
noncomputable def sp69 : Sp
 | [.agg [.int .i64 q, .int .i64 lim, .sl tk [.int .i64, .int .i64, .int .i64, .int .i64, .int .i64, .int .i64, .sl [.int .i64, .int .i64, .int .i64, .int .i64]] l, .int .i64 t, .int .i64 k]], [] => spW (vev69_1 q lim t k tk l) (some ((true, iA (vev69_0 q lim t k tk l), [])))
 | _, _ => none
noncomputable def k69 : Gam := spG 69 sp69 k16
theorem k69_ok : GamOK Try.prog k69 := spG_ok k16_ok fun T C r outs hs => by
   unfold sp69 at hs
   split at hs
   ·exact okE k16_ok Try.func69 loops69 (ev69 _ _ _ _ _ _) hs
   ·cases hs
noncomputable def rev32_0 (q lim t k : Int) (l : LL) : Int := intOf ((l.getD (vev69_0 q lim t k Tk.imm l).toNat []).getD (0 + 1 + 1 + 1 + 1 + 1) AV.junk)
noncomputable def rev32_1 (q lim t k : Int) (l : LL) : LL := elsO ((l.getD (vev69_0 q lim t k Tk.imm l).toNat []).getD (0 + 1 + 1 + 1 + 1 + 1 + 1) AV.junk)
noncomputable def rev32_2 (q lim t k : Int) (l : LL) : Int := intOf ((l.getD (vev69_0 q lim t k Tk.imm l).toNat []).getD (0 + 1) AV.junk)
noncomputable def rev32_3 (q lim t k : Int) (l : LL) : Int := intOf ((l.getD (vev69_0 q lim t k Tk.imm l).toNat []).getD (0 + 1 + 1) AV.junk)
noncomputable def rev32_4 (q lim t k : Int) (l : LL) : Int := intOf ((l.getD (vev69_0 q lim t k Tk.imm l).toNat []).getD (0 + 1 + 1 + 1) AV.junk)
noncomputable def rev32_5 (q lim t k : Int) (l : LL) : Int := intOf ((l.getD (vev69_0 q lim t k Tk.imm l).toNat []).getD (0 + 1 + 1 + 1 + 1) AV.junk)
noncomputable def rev32_6 (q lim t k : Int) (l : LL) : Int := vev70_5 (rev32_0 q lim t k l) (rev32_1 q lim t k l) q
noncomputable def rev32_7 (q lim t k : Int) (l : LL) : Int := vev71_0 t (rev32_2 q lim t k l) (rev32_3 q lim t k l) (rev32_4 q lim t k l) (rev32_5 q lim t k l) (rev32_6 q lim t k l)
noncomputable def rev32_8 (q lim t k : Int) (l : LL) : Int := IntKind.i64.wrap (k + rev32_6 q lim t k l)
noncomputable def rev32_9 (q lim t k : Int) (l : LL) : Int := intOf ((l.getD (vev69_0 q lim t k Tk.imm l).toNat []).getD 0 AV.junk)
noncomputable def rev32_10 (q lim t k : Int) (l : LL) : Int := vev71_1 t (rev32_2 q lim t k l) (rev32_3 q lim t k l) (rev32_4 q lim t k l) (rev32_5 q lim t k l) (rev32_6 q lim t k l)
noncomputable def rev32_11 (q lim t k : Int) (l : LL) : Int := vev71_2 t (rev32_2 q lim t k l) (rev32_3 q lim t k l) (rev32_4 q lim t k l) (rev32_5 q lim t k l) (rev32_6 q lim t k l)
noncomputable def rev32_12 (q lim t k : Int) (l : LL) : Int := vev71_3 t (rev32_2 q lim t k l) (rev32_3 q lim t k l) (rev32_4 q lim t k l) (rev32_5 q lim t k l) (rev32_6 q lim t k l)
noncomputable def rev32_13 (q lim t k : Int) (l : LL) : LL := vev70_0 (rev32_0 q lim t k l) (rev32_1 q lim t k l) q
noncomputable def vev32_0 (q lim t k : Int) (l : LL) : LL := bif decide (vev69_0 q lim t k Tk.imm l < 0) then l else vev54_0 q lim (rev32_7 q lim t k l) (rev32_8 q lim t k l) l (vev69_0 q lim t k Tk.imm l) (rev32_9 q lim t k l) (rev32_2 q lim t k l) (rev32_10 q lim t k l) (rev32_11 q lim t k l) (rev32_12 q lim t k l) (rev32_0 q lim t k l) (rev32_13 q lim t k l)
noncomputable def vev32_1 (q lim t k : Int) (l : LL) : Int := bif decide (vev69_0 q lim t k Tk.imm l < 0) then t else rev32_7 q lim t k l
noncomputable def vev32_2 (q lim t k : Int) (l : LL) : Int := bif decide (vev69_0 q lim t k Tk.imm l < 0) then k else rev32_8 q lim t k l
noncomputable def vev32_3 (q lim t k : Int) (l : LL) : Int := bif decide (vev69_0 q lim t k Tk.imm l < 0) then 0 else rev32_9 q lim t k l
noncomputable def vev32_4 (q lim t k : Int) (l : LL) : Int := bif decide (vev69_0 q lim t k Tk.imm l < 0) then 0 else vev70_1 (rev32_0 q lim t k l) (rev32_1 q lim t k l) q
noncomputable def vev32_5 (q lim t k : Int) (l : LL) : Int := bif decide (vev69_0 q lim t k Tk.imm l < 0) then 0 else rev32_6 q lim t k l
noncomputable def vev32_6 (q lim t k : Int) (l : LL) : Int := bif decide (vev69_0 q lim t k Tk.imm l < 0) then 0 else vev70_3 (rev32_0 q lim t k l) (rev32_1 q lim t k l) q
noncomputable def vev32_7 (q lim t k : Int) (l : LL) : Bool := bif decide (vev69_0 q lim t k Tk.imm l < 0) then false else true
noncomputable def vev32_8 (q lim t k : Int) (l : LL) : Bool := bif vev69_1 q lim t k Tk.imm l then bif decide (vev69_0 q lim t k Tk.imm l < 0) then true else bif decide (0 ≤ vev69_0 q lim t k Tk.imm l) && decide (vev69_0 q lim t k Tk.imm l < (↑l.length : Int)) then bif vev70_6 (rev32_0 q lim t k l) (rev32_1 q lim t k l) q then bif vev71_5 t (rev32_2 q lim t k l) (rev32_3 q lim t k l) (rev32_4 q lim t k l) (rev32_5 q lim t k l) (rev32_6 q lim t k l) then bif vev54_1 q lim (rev32_7 q lim t k l) (rev32_8 q lim t k l) l (vev69_0 q lim t k Tk.imm l) (rev32_9 q lim t k l) (rev32_2 q lim t k l) (rev32_10 q lim t k l) (rev32_11 q lim t k l) (rev32_12 q lim t k l) (rev32_0 q lim t k l) (rev32_13 q lim t k l) then true else false else false else false else false else false
theorem ev32 (q lim t k : Int) (l : LL) : eF k69 noLsp 32 Try.f32 [.agg [iA q, iA lim, .sl .imm kF l, iA t, iA k]] [] = bif vev32_8 q lim t k l then some (true, AV.tup [AV.agg [iA q, iA lim, AV.sl Tk.imm kF (vev32_0 q lim t k l), iA (vev32_1 q lim t k l), iA (vev32_2 q lim t k l)], AV.agg [iA (vev32_3 q lim t k l), iA (vev32_4 q lim t k l), iA (vev32_5 q lim t k l), iA (vev32_6 q lim t k l)], AV.bool (vev32_7 q lim t k l)], []) else none := by
 refine Eq.trans (b := bif vev69_1 q lim t k Tk.imm l then bif decide (vev69_0 q lim t k Tk.imm l < 0) then some (true, AV.tup [AV.agg [iA q, iA lim, AV.sl Tk.imm kF l, iA t, iA k], AV.agg [iA 0, iA 0, iA 0, iA 0], AV.bool false], []) else bif decide (0 ≤ vev69_0 q lim t k Tk.imm l) && decide (vev69_0 q lim t k Tk.imm l < (↑l.length : Int)) then bif vev70_6 (rev32_0 q lim t k l) (rev32_1 q lim t k l) q then bif vev71_5 t (rev32_2 q lim t k l) (rev32_3 q lim t k l) (rev32_4 q lim t k l) (rev32_5 q lim t k l) (rev32_6 q lim t k l) then bif vev54_1 q lim (rev32_7 q lim t k l) (rev32_8 q lim t k l) l (vev69_0 q lim t k Tk.imm l) (rev32_9 q lim t k l) (rev32_2 q lim t k l) (rev32_10 q lim t k l) (rev32_11 q lim t k l) (rev32_12 q lim t k l) (rev32_0 q lim t k l) (rev32_13 q lim t k l) then some (true, AV.tup [AV.agg [iA q, iA lim, AV.sl Tk.imm kF (vev54_0 q lim (rev32_7 q lim t k l) (rev32_8 q lim t k l) l (vev69_0 q lim t k Tk.imm l) (rev32_9 q lim t k l) (rev32_2 q lim t k l) (rev32_10 q lim t k l) (rev32_11 q lim t k l) (rev32_12 q lim t k l) (rev32_0 q lim t k l) (rev32_13 q lim t k l)), iA (rev32_7 q lim t k l), iA (rev32_8 q lim t k l)], AV.agg [iA (rev32_9 q lim t k l), iA (vev70_1 (rev32_0 q lim t k l) (rev32_1 q lim t k l) q), iA (rev32_6 q lim t k l), iA (vev70_3 (rev32_0 q lim t k l) (rev32_1 q lim t k l) q)], AV.bool true], []) else none else none else none else none else none) (by kernel_rfl) ?_
 unfold vev32_0 vev32_1 vev32_2 vev32_3 vev32_4 vev32_5 vev32_6 vev32_7 vev32_8
 generalize (vev54_1 _ _ _ _ _ _ _ _ _ _ _ _ _) = c0
 generalize (decide (0 ≤ vev69_0 q lim t k Tk.imm l) && decide (vev69_0 q lim t k Tk.imm l < (↑l.length : Int))) = c1
 generalize (vev71_5 _ _ _ _ _ _) = c2
 generalize (decide (vev69_0 q lim t k Tk.imm l < 0)) = c3
 generalize (vev70_6 _ _ _) = c4
 generalize (vev69_1 _ _ _ _ _ _) = c5
 cases c5; rfl; cases c3; cases c1; rfl; cases c4; rfl; cases c2; rfl; cases c0; rfl; rfl; rfl
noncomputable def sp32 : Sp
 | [.agg [.int .i64 q, .int .i64 lim, .sl .imm [.int .i64, .int .i64, .int .i64, .int .i64, .int .i64, .int .i64, .sl [.int .i64, .int .i64, .int .i64, .int .i64]] l, .int .i64 t, .int .i64 k]], [] => spW (vev32_8 q lim t k l) (some ((true, AV.tup [AV.agg [iA q, iA lim, AV.sl Tk.imm kF (vev32_0 q lim t k l), iA (vev32_1 q lim t k l), iA (vev32_2 q lim t k l)], AV.agg [iA (vev32_3 q lim t k l), iA (vev32_4 q lim t k l), iA (vev32_5 q lim t k l), iA (vev32_6 q lim t k l)], AV.bool (vev32_7 q lim t k l)], [])))
 | _, _ => none
noncomputable def k32 : Gam := spG 32 sp32 k69
theorem k32_ok : GamOK Try.prog k32 := spG_ok k69_ok fun T C r outs hs => by
   unfold sp32 at hs
   split at hs
   ·exact okE k69_ok Try.func32 (fun c _ => LoopsOK.none (fun _ _ => rfl) c) (ev32 _ _ _ _ _) hs
   ·cases hs
end Go.Proofs.Gv
namespace Go.Proofs.Gv
open Go.Proofs
end Go.Proofs.Gv
namespace Go.Proofs.Gv
open Go.Proofs
theorem ev11 (q : Int) (l : Int) : evFun (cfg Try.prog tab 100000 (gk k32 30) noLsp 11 ([] : List Blk).length Try.f11.ntmps) Try.f11 [.int .i64 q, .int .i64 l] [] = bif bif !vev42_0 q (1 : Int) (1000 : Int) then true else true then bif bif !vev42_0 q (1 : Int) (1000 : Int) then true else bif false then true else !vev42_0 l (1 : Int) (1000 : Int) then some (AV.tup [AV.nilp, AV.int IntKind.i64 (8 : Int)], []) else some (AV.tup [AV.hp (nat_lit 0) (nat_lit 0), AV.int IntKind.i64 (0 : Int)], [Blk.var [AV.int IntKind.i64 q, AV.int IntKind.i64 l, AV.nil, AV.mp (nat_lit 1) [Kd.int IntKind.i64, Kd.int IntKind.i64, Kd.int IntKind.i64, Kd.int IntKind.i64, Kd.int IntKind.i64, Kd.int IntKind.i64, Kd.sl [Kd.int IntKind.i64, Kd.int IntKind.i64, Kd.int IntKind.i64, Kd.int IntKind.i64]], AV.nil, AV.int IntKind.i64 (0 : Int), AV.int IntKind.i64 (0 : Int)], Blk.tbl [Kd.int IntKind.i64, Kd.int IntKind.i64, Kd.int IntKind.i64, Kd.int IntKind.i64, Kd.int IntKind.i64, Kd.int IntKind.i64, Kd.sl [Kd.int IntKind.i64, Kd.int IntKind.i64, Kd.int IntKind.i64, Kd.int IntKind.i64]] [] none]) else none := by kernel_rfl
end Go.Proofs.Gv
namespace Go.Proofs.Gv
open Go.Proofs
def okN (q l : Int) : Bool := decide (1 ≤ q) && (decide (q ≤ 1000) && (decide (1 ≤ l) && decide (l ≤ 1000)))
theorem okN_iff {q l : Int} : okN q l = true ↔ (1 ≤ q ∧ q ≤ 1000) ∧ (1 ≤ l ∧ l ≤ 1000) := by
 simp [okN, and_assoc]
abbrev kdFl : List Kd := [.int .i64, .int .i64, .int .i64, .int .i64, .int .i64, .int .i64, .sl [.int .i64, .int .i64, .int .i64, .int .i64]]
theorem in_fair (n : Int) : vev42_0 n 1 1000 = (decide (1 ≤ n) && decide (n ≤ 1000)) := by
 unfold vev42_0
 cases decide (1 ≤ n) <;> rfl
theorem new11 (q l : Int) : Enters Try.prog 11 ∧ (okN q l = false → FnOK Try.prog 11 [.int .i64 q, .int .i64 l] [] (.tup [.nilp, .int .i64 8]) []) ∧
  (okN q l = true → FnOK Try.prog 11 [.int .i64 q, .int .i64 l] [] (.tup [.hp 0 0, .int .i64 0]) [.var [.int .i64 q, .int .i64 l, .nil, .mp 1 kdFl, .nil, .int .i64 0, .int .i64 0], .tbl kdFl [] none]) := by
 have he := ev11 q l
 have key : ∀ {r : AV} {outs : List Blk}, evFun (cfg Try.prog tab 100000 (gk k32 30) noLsp 11 ([] : List Blk).length Try.f11.ntmps) Try.f11 [.int .i64 q, .int .i64 l] [] = some (r, outs) → Enters Try.prog 11 ∧ FnOK Try.prog 11 [.int .i64 q, .int .i64 l] [] r outs :=
  fun h => fn_ok mixed plain (gk_ok k32_ok 30) Try.func11 (fun c _ => LoopsOK.none (fun _ _ => rfl) c) h
 rw [in_fair, in_fair] at he
 unfold okN
 generalize decide (1 ≤ q) = a at *
 generalize decide (q ≤ 1000) = b at *
 generalize decide (1 ≤ l) = c at *
 generalize decide (l ≤ 1000) = d at *
 cases a <;> cases b <;> cases c <;> cases d <;> simp only [Bool.and_true, Bool.and_false, Bool.true_and, Bool.false_and, Bool.not_true, Bool.not_false, cond_true, cond_false] at he <;>
  (refine ⟨(key he).1, fun h => ?_, fun h => ?_⟩ <;> first | exact (key he).2 | exact absurd h (by decide))
theorem new12 (q l : Int) : Enters Try.prog 12 ∧ (okN q l = false → FnOK Try.prog 12 [.int .i64 q, .int .i64 l] [] (.tup [.agg [.int .i64 0, .int .i64 0, .sl .imm kdFl [], .int .i64 0, .int .i64 0], .int .i64 8]) []) ∧
  (okN q l = true → FnOK Try.prog 12 [.int .i64 q, .int .i64 l] [] (.tup [.agg [.int .i64 q, .int .i64 l, .sl .imm kdFl [], .int .i64 0, .int .i64 0], .int .i64 0]) []) := by
 have h := k12_ok 12 [.int .i64 q, .int .i64 l] [] _ _ (show k12 12 [.int .i64 q, .int .i64 l] [] = some (true, AV.tup [AV.agg [AV.int IntKind.i64 (vev12_0 q l), AV.int IntKind.i64 (vev12_1 q l), AV.sl Tk.imm kdFl [], AV.int IntKind.i64 0, AV.int IntKind.i64 0], AV.int IntKind.i64 (vev12_2 q l)], []) from rfl)
 refine ⟨h.1, fun hk => ?_, fun hk => ?_⟩
 ·have hc : (bif decide (q < (1 : Int)) then true else bif decide (q > (1000 : Int)) then true else bif decide (l < (1 : Int)) then true else decide (l > (1000 : Int))) = true := by
   have : ¬ ((1 ≤ q ∧ q ≤ 1000) ∧ (1 ≤ l ∧ l ≤ 1000)) := fun hh => by rw [← okN_iff, hk] at hh; cases hh
   cases h1 : decide (q < 1) <;> cases h2 : decide (q > 1000) <;> cases h3 : decide (l < 1) <;> cases h4 : decide (l > 1000) <;> simp_all <;> omega
  have h2 := h.2
  unfold vev12_0 vev12_1 vev12_2 at h2
  rw [hc] at h2
  exact h2
 ·have hc : (bif decide (q < (1 : Int)) then true else bif decide (q > (1000 : Int)) then true else bif decide (l < (1 : Int)) then true else decide (l > (1000 : Int))) = false := by
   have := okN_iff.1 hk
   rw [decide_eq_false (by omega), decide_eq_false (by omega), decide_eq_false (by omega), decide_eq_false (by omega)]
   rfl
  have h2 := h.2
  unfold vev12_0 vev12_1 vev12_2 at h2
  rw [hc] at h2
  exact h2
noncomputable def sp11A : List AV → List Blk → Option (Bool × AV × List Blk)
 | [.int .i64 q, .int .i64 l], [] => some (!okN q l, .tup [.nilp, .int .i64 8], [])
 | _, _ => none
noncomputable def sp12A : List AV → List Blk → Option (Bool × AV × List Blk)
 | [.int .i64 q, .int .i64 l], [] => some (!okN q l, .tup [.agg [.int .i64 0, .int .i64 0, .sl .imm kdFl [], .int .i64 0, .int .i64 0], .int .i64 8], [])
 | _, _ => none
noncomputable def sp11B : List AV → List Blk → Option (Bool × AV × List Blk)
 | [.int .i64 q, .int .i64 l], [] => some (okN q l, .tup [.hp 0 0, .int .i64 0], [.var [.int .i64 q, .int .i64 l, .nil, .mp 1 kdFl, .nil, .int .i64 0, .int .i64 0], .tbl kdFl [] none])
 | _, _ => none
noncomputable def sp12B : List AV → List Blk → Option (Bool × AV × List Blk)
 | [.int .i64 q, .int .i64 l], [] => some (okN q l, .tup [.agg [.int .i64 q, .int .i64 l, .sl .imm kdFl [], .int .i64 0, .int .i64 0], .int .i64 0], [])
 | _, _ => none
noncomputable def kA : Gam := spG 11 sp11A (spG 12 sp12A k32)
noncomputable def kB : Gam := spG 11 sp11B (spG 12 sp12B k32)
theorem kB_ok : GamOK Try.prog kB := by
 refine spG_ok (spG_ok k32_ok ?_) ?_
 ·intro T C r outs h
  unfold sp12B at h
  split at h
  ·rename_i q l
   simp only [Option.some.injEq, Prod.mk.injEq] at h
   obtain ⟨h1, rfl, rfl⟩ := h
   exact ⟨(new12 q l).1, (new12 q l).2.2 h1⟩
  ·cases h
 ·intro T C r outs h
  unfold sp11B at h
  split at h
  ·rename_i q l
   simp only [Option.some.injEq, Prod.mk.injEq] at h
   obtain ⟨h1, rfl, rfl⟩ := h
   exact ⟨(new11 q l).1, (new11 q l).2.2 h1⟩
  ·cases h
end Go.Proofs.Gv
