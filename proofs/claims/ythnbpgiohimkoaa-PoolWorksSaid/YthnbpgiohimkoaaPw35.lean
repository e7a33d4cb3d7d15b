import Derived.Test.YthnbpgiohimkoaaPw32
import Derived.Test.YthnbpgiohimkoaaPw33
import Derived.Test.YthnbpgiohimkoaaPw27
import Derived.KernelRfl
import Derived.Test.YthnbpgiohimkoaaPw34
import Derived.Test.YthnbpgiohimkoaaPw30
import Derived.Test.YthnbpgiohimkoaaPw31
set_option linter.unusedVariables false
namespace Go.Proofs.Gv
open Go.Proofs
theorem mixed : Try.prog.follows .mixedOrders = true := by kernel_rfl
theorem plain : plainNames Try.prog = true := by kernel_rfl
noncomputable abbrev j87 : Func := unj Try.f87
noncomputable abbrev j114 : Func := unj Try.f114
def k0 : Gam := fun _ _ _ => none
theorem k0_ok : GamOK Try.prog k0 := GamOK.none _
noncomputable abbrev gk (k : Gam) : Nat → Gam := gamJ Try.prog tab 100000 k
theorem gk_ok {k : Gam} (h : GamOK Try.prog k) (d : Nat) : GamOK Try.prog (gk k d) := gamJ_ok mixed plain h d
def spW (ok : Bool) (x : Option (Bool × AV × List Blk)) : Option (Bool × AV × List Blk) :=
 match x with
 | some (_, r, o) => some (ok, r, o)
 | none => none
theorem spT_inv {ok b' : Bool} {r r' : AV} {o o' : List Blk} (h : spW ok (some (b', r', o')) = some (true, r, o)) : ok = true ∧ r' = r ∧ o' = o := by
 unfold spW at h
 injection h with h
 injection h with h1 h
 injection h with h2 h3
 exact ⟨h1, h2, h3⟩
theorem fin_true {P : Program} {frz : Bool} {m : Nat} {ts : List TypeId} {x : Option (AV × List Blk)} {b : Bool} {r : AV} {o : List Blk} (h : fin P frz m ts x = some (b, r, o)) : b = true := by
 unfold fin at h
 split at h
 ·split at h <;> (injection h with h; injection h with h; exact h.symm)
 ·cases h
theorem spW_inv {P : Program} {frz : Bool} {m : Nat} {ts : List TypeId} {x : Option (AV × List Blk)} {ok : Bool} {r : AV} {o : List Blk} (h : spW ok (fin P frz m ts x) = some (true, r, o)) : ok = true ∧ fin P frz m ts x = some (true, r, o) := by
 unfold spW at h
 split at h
 ·rename_i b r' o' he
  injection h with h
  injection h with h1 h
  injection h with h2 h3
  subst h1 h2 h3
  have := fin_true he
  subst this
  exact ⟨rfl, he⟩
 ·cases h
theorem ev75n : evFun (cfg Try.prog tab 100000 (gk k0 30) noLsp 75 ([] : List Blk).length Try.f75.ntmps) Try.f75 [.nil] [] = some (AV.nil, []) := by kernel_rfl
noncomputable def sp75n : Sp
 | [.nil], [] => spW (true) (fin Try.prog (tab.frz 75) ([] : List Blk).length Try.f75.resultTypes.toList (some ((AV.nil, []))))
 | _, _ => none
noncomputable def k75n : Gam := spG 75 sp75n k0
theorem k75n_ok : GamOK Try.prog k75n := spG_ok k0_ok fun T C r outs hs => by
   unfold sp75n at hs
   split at hs
   ·obtain ⟨hb, hs⟩ := spW_inv hs
    have he := ev75n
    obtain ⟨h1, h2⟩ := fn_ok mixed plain (gk_ok k0_ok 30) Try.func75 (fun c _ => LoopsOK.none (fun _ _ => rfl) c) he
    exact ⟨h1, h2.fin hs⟩
   ·cases hs
noncomputable def vev75s_0 (es : LL) : LL := [] ++ es
noncomputable def vev75s_1 (es : LL) : Bool := bif bif decide ((0 + es.length) * 32 ≤ 140737488355328) then decide (0 + es.length ≤ 9223372036854775807) else false then true else false
theorem ev75s (es : LL) : evFun (cfg Try.prog tab 100000 (gk k75n 30) noLsp 75 ([] : List Blk).length Try.f75.ntmps) Try.f75 [.sl .nn kI4 es] [] = bif vev75s_1 es then some (AV.rf 0 kI4, [Blk.row kI4 (vev75s_0 es)]) else none := by
 refine Eq.trans (b := bif bif decide ((0 + es.length) * 32 ≤ 140737488355328) then decide (0 + es.length ≤ 9223372036854775807) else false then some (AV.rf 0 kI4, [Blk.row kI4 ([] ++ es)]) else none) (by kernel_rfl) ?_
 unfold vev75s_0 vev75s_1
 generalize (decide ((0 + es.length) * 32 ≤ 140737488355328)) = c0
 generalize (decide (0 + es.length ≤ 9223372036854775807)) = c1
 cases c0; rfl; cases c1; rfl; rfl
noncomputable def sp75s : Sp
 | [.sl .nn [.int .i64, .int .i64, .int .i64, .int .i64] es], [] => spW (vev75s_1 es) (fin Try.prog (tab.frz 75) ([] : List Blk).length Try.f75.resultTypes.toList (some ((AV.rf 0 kI4, [Blk.row kI4 (vev75s_0 es)]))))
 | _, _ => none
noncomputable def k75s : Gam := spG 75 sp75s k75n
theorem k75s_ok : GamOK Try.prog k75s := spG_ok k75n_ok fun T C r outs hs => by
   unfold sp75s at hs
   split at hs
   ·rename_i es
    obtain ⟨hb, hs⟩ := spW_inv hs
    have he := ev75s es
    rw [hb, cond_true] at he
    obtain ⟨h1, h2⟩ := fn_ok mixed plain (gk_ok k75n_ok 30) Try.func75 (fun c _ => LoopsOK.none (fun _ _ => rfl) c) he
    exact ⟨h1, h2.fin hs⟩
   ·cases hs
noncomputable def sp75c : Sp
 | [.sl _ [.int .i64, .int .i64, .int .i64, .int .i64] es], [] => some (Nat.ble (es.length * 32) 140737488355328, .rf 0 kI4, [.row kI4 es])
 | _, _ => none
noncomputable def k75c : Gam := spG 75 sp75c k75s
theorem k75c_ok : GamOK Try.prog k75c := spG_ok k75s_ok fun T C r outs hs => by
   unfold sp75c at hs
   split at hs
   ·rename_i t es
    injection hs with hs
    injection hs with hb hs
    injection hs with e1 e2
    subst e1 e2
    have hb := Nat.le_of_ble_eq_true hb
    have h1 := fn_ok mixed plain (gk_ok k0_ok 30) Try.func75 (fun c _ => LoopsOK.none (fun _ _ => rfl) c) ev75n
    have he := ev75s es
    have hok : vev75s_1 es = true := by
     unfold vev75s_1
     rw [decide_eq_true (show (0 + es.length) * 32 ≤ 140737488355328 by omega), decide_eq_true (show 0 + es.length ≤ 9223372036854775807 by omega)]
     rfl
    rw [hok, cond_true] at he
    have h2 := fn_ok mixed plain (gk_ok k75n_ok 30) Try.func75 (fun c _ => LoopsOK.none (fun _ _ => rfl) c) he
    exact ⟨h1.1, clone_ok (by decide) h1.2 (fun h => h) h2.2 t⟩
   ·cases hs
theorem ev94n : evFun (cfg Try.prog tab 100000 (gk k75c 30) noLsp 94 ([] : List Blk).length Try.f94.ntmps) Try.f94 [.nil] [] = some (AV.nil, []) := by kernel_rfl
noncomputable def sp94n : Sp
 | [.nil], [] => spW (true) (fin Try.prog (tab.frz 94) ([] : List Blk).length Try.f94.resultTypes.toList (some ((AV.nil, []))))
 | _, _ => none
noncomputable def k94n : Gam := spG 94 sp94n k75c
theorem k94n_ok : GamOK Try.prog k94n := spG_ok k75c_ok fun T C r outs hs => by
   unfold sp94n at hs
   split at hs
   ·obtain ⟨hb, hs⟩ := spW_inv hs
    have he := ev94n
    obtain ⟨h1, h2⟩ := fn_ok mixed plain (gk_ok k75c_ok 30) Try.func94 (fun c _ => LoopsOK.none (fun _ _ => rfl) c) he
    exact ⟨h1, h2.fin hs⟩
   ·cases hs
noncomputable def vev94s_0 (es : LL) : LL := [] ++ es
noncomputable def vev94s_1 (es : LL) : Bool := bif bif decide ((0 + es.length) * 8 ≤ 140737488355328) then decide (0 + es.length ≤ 9223372036854775807) else false then true else false
theorem ev94s (es : LL) : evFun (cfg Try.prog tab 100000 (gk k94n 30) noLsp 94 ([] : List Blk).length Try.f94.ntmps) Try.f94 [.sl .nn kI1 es] [] = bif vev94s_1 es then some (AV.rf 0 kI1, [Blk.row kI1 (vev94s_0 es)]) else none := by
 refine Eq.trans (b := bif bif decide ((0 + es.length) * 8 ≤ 140737488355328) then decide (0 + es.length ≤ 9223372036854775807) else false then some (AV.rf 0 kI1, [Blk.row kI1 ([] ++ es)]) else none) (by kernel_rfl) ?_
 unfold vev94s_0 vev94s_1
 generalize (decide ((0 + es.length) * 8 ≤ 140737488355328)) = c0
 generalize (decide (0 + es.length ≤ 9223372036854775807)) = c1
 cases c0; rfl; cases c1; rfl; rfl
noncomputable def sp94s : Sp
 | [.sl .nn [.int .i64] es], [] => spW (vev94s_1 es) (fin Try.prog (tab.frz 94) ([] : List Blk).length Try.f94.resultTypes.toList (some ((AV.rf 0 kI1, [Blk.row kI1 (vev94s_0 es)]))))
 | _, _ => none
noncomputable def k94s : Gam := spG 94 sp94s k94n
theorem k94s_ok : GamOK Try.prog k94s := spG_ok k94n_ok fun T C r outs hs => by
   unfold sp94s at hs
   split at hs
   ·rename_i es
    obtain ⟨hb, hs⟩ := spW_inv hs
    have he := ev94s es
    rw [hb, cond_true] at he
    obtain ⟨h1, h2⟩ := fn_ok mixed plain (gk_ok k94n_ok 30) Try.func94 (fun c _ => LoopsOK.none (fun _ _ => rfl) c) he
    exact ⟨h1, h2.fin hs⟩
   ·cases hs
noncomputable def sp94c : Sp
 | [.sl _ [.int .i64] es], [] => some (Nat.ble (es.length * 8) 140737488355328, .rf 0 kI1, [.row kI1 es])
 | _, _ => none
noncomputable def k94c : Gam := spG 94 sp94c k94s
theorem k94c_ok : GamOK Try.prog k94c := spG_ok k94s_ok fun T C r outs hs => by
   unfold sp94c at hs
   split at hs
   ·rename_i t es
    injection hs with hs
    injection hs with hb hs
    injection hs with e1 e2
    subst e1 e2
    have hb := Nat.le_of_ble_eq_true hb
    have h1 := fn_ok mixed plain (gk_ok k75c_ok 30) Try.func94 (fun c _ => LoopsOK.none (fun _ _ => rfl) c) ev94n
    have he := ev94s es
    have hok : vev94s_1 es = true := by
     unfold vev94s_1
     rw [decide_eq_true (show (0 + es.length) * 8 ≤ 140737488355328 by omega), decide_eq_true (show 0 + es.length ≤ 9223372036854775807 by omega)]
     rfl
    rw [hok, cond_true] at he
    have h2 := fn_ok mixed plain (gk_ok k94n_ok 30) Try.func94 (fun c _ => LoopsOK.none (fun _ _ => rfl) c) he
    exact ⟨h1.1, clone_ok (by decide) h1.2 (fun h => h) h2.2 t⟩
   ·cases hs
theorem ev111n : evFun (cfg Try.prog tab 100000 (gk k94c 30) noLsp 111 ([] : List Blk).length Try.f111.ntmps) Try.f111 [.nil] [] = some (AV.nil, []) := by kernel_rfl
noncomputable def sp111n : Sp
 | [.nil], [] => spW (true) (fin Try.prog (tab.frz 111) ([] : List Blk).length Try.f111.resultTypes.toList (some ((AV.nil, []))))
 | _, _ => none
noncomputable def k111n : Gam := spG 111 sp111n k94c
theorem k111n_ok : GamOK Try.prog k111n := spG_ok k94c_ok fun T C r outs hs => by
   unfold sp111n at hs
   split at hs
   ·obtain ⟨hb, hs⟩ := spW_inv hs
    have he := ev111n
    obtain ⟨h1, h2⟩ := fn_ok mixed plain (gk_ok k94c_ok 30) Try.func111 (fun c _ => LoopsOK.none (fun _ _ => rfl) c) he
    exact ⟨h1, h2.fin hs⟩
   ·cases hs
noncomputable def vev111s_0 (es : LL) : LL := [] ++ es
noncomputable def vev111s_1 (es : LL) : Bool := bif bif decide ((0 + es.length) * 16 ≤ 140737488355328) then decide (0 + es.length ≤ 9223372036854775807) else false then true else false
theorem ev111s (es : LL) : evFun (cfg Try.prog tab 100000 (gk k111n 30) noLsp 111 ([] : List Blk).length Try.f111.ntmps) Try.f111 [.sl .nn kI2 es] [] = bif vev111s_1 es then some (AV.rf 0 kI2, [Blk.row kI2 (vev111s_0 es)]) else none := by
 refine Eq.trans (b := bif bif decide ((0 + es.length) * 16 ≤ 140737488355328) then decide (0 + es.length ≤ 9223372036854775807) else false then some (AV.rf 0 kI2, [Blk.row kI2 ([] ++ es)]) else none) (by kernel_rfl) ?_
 unfold vev111s_0 vev111s_1
 generalize (decide ((0 + es.length) * 16 ≤ 140737488355328)) = c0
 generalize (decide (0 + es.length ≤ 9223372036854775807)) = c1
 cases c0; rfl; cases c1; rfl; rfl
noncomputable def sp111s : Sp
 | [.sl .nn [.int .i64, .int .i64] es], [] => spW (vev111s_1 es) (fin Try.prog (tab.frz 111) ([] : List Blk).length Try.f111.resultTypes.toList (some ((AV.rf 0 kI2, [Blk.row kI2 (vev111s_0 es)]))))
 | _, _ => none
noncomputable def k111s : Gam := spG 111 sp111s k111n
theorem k111s_ok : GamOK Try.prog k111s := spG_ok k111n_ok fun T C r outs hs => by
   unfold sp111s at hs
   split at hs
   ·rename_i es
    obtain ⟨hb, hs⟩ := spW_inv hs
    have he := ev111s es
    rw [hb, cond_true] at he
    obtain ⟨h1, h2⟩ := fn_ok mixed plain (gk_ok k111n_ok 30) Try.func111 (fun c _ => LoopsOK.none (fun _ _ => rfl) c) he
    exact ⟨h1, h2.fin hs⟩
   ·cases hs
noncomputable def sp111c : Sp
 | [.sl _ [.int .i64, .int .i64] es], [] => some (Nat.ble (es.length * 16) 140737488355328, .rf 0 kI2, [.row kI2 es])
 | _, _ => none
noncomputable def k111c : Gam := spG 111 sp111c k111s
theorem k111c_ok : GamOK Try.prog k111c := spG_ok k111s_ok fun T C r outs hs => by
   unfold sp111c at hs
   split at hs
   ·rename_i t es
    injection hs with hs
    injection hs with hb hs
    injection hs with e1 e2
    subst e1 e2
    have hb := Nat.le_of_ble_eq_true hb
    have h1 := fn_ok mixed plain (gk_ok k94c_ok 30) Try.func111 (fun c _ => LoopsOK.none (fun _ _ => rfl) c) ev111n
    have he := ev111s es
    have hok : vev111s_1 es = true := by
     unfold vev111s_1
     rw [decide_eq_true (show (0 + es.length) * 16 ≤ 140737488355328 by omega), decide_eq_true (show 0 + es.length ≤ 9223372036854775807 by omega)]
     rfl
    rw [hok, cond_true] at he
    have h2 := fn_ok mixed plain (gk_ok k111n_ok 30) Try.func111 (fun c _ => LoopsOK.none (fun _ _ => rfl) c) he
    exact ⟨h1.1, clone_ok (by decide) h1.2 (fun h => h) h2.2 t⟩
   ·cases hs
theorem ev118n : evFun (cfg Try.prog tab 100000 (gk k111c 30) noLsp 118 ([] : List Blk).length Try.f118.ntmps) Try.f118 [.nil] [] = some (AV.nil, []) := by kernel_rfl
noncomputable def sp118n : Sp
 | [.nil], [] => spW (true) (fin Try.prog (tab.frz 118) ([] : List Blk).length Try.f118.resultTypes.toList (some ((AV.nil, []))))
 | _, _ => none
noncomputable def k118n : Gam := spG 118 sp118n k111c
theorem k118n_ok : GamOK Try.prog k118n := spG_ok k111c_ok fun T C r outs hs => by
   unfold sp118n at hs
   split at hs
   ·obtain ⟨hb, hs⟩ := spW_inv hs
    have he := ev118n
    obtain ⟨h1, h2⟩ := fn_ok mixed plain (gk_ok k111c_ok 30) Try.func118 (fun c _ => LoopsOK.none (fun _ _ => rfl) c) he
    exact ⟨h1, h2.fin hs⟩
   ·cases hs
noncomputable def vev118s_0 (es : LL) : LL := [] ++ es
noncomputable def vev118s_1 (es : LL) : Bool := bif bif decide ((0 + es.length) * 16 ≤ 140737488355328) then decide (0 + es.length ≤ 9223372036854775807) else false then true else false
theorem ev118s (es : LL) : evFun (cfg Try.prog tab 100000 (gk k118n 30) noLsp 118 ([] : List Blk).length Try.f118.ntmps) Try.f118 [.sl .nn kI2 es] [] = bif vev118s_1 es then some (AV.rf 0 kI2, [Blk.row kI2 (vev118s_0 es)]) else none := by
 refine Eq.trans (b := bif bif decide ((0 + es.length) * 16 ≤ 140737488355328) then decide (0 + es.length ≤ 9223372036854775807) else false then some (AV.rf 0 kI2, [Blk.row kI2 ([] ++ es)]) else none) (by kernel_rfl) ?_
 unfold vev118s_0 vev118s_1
 generalize (decide ((0 + es.length) * 16 ≤ 140737488355328)) = c0
 generalize (decide (0 + es.length ≤ 9223372036854775807)) = c1
 cases c0; rfl; cases c1; rfl; rfl
noncomputable def sp118s : Sp
 | [.sl .nn [.int .i64, .int .i64] es], [] => spW (vev118s_1 es) (fin Try.prog (tab.frz 118) ([] : List Blk).length Try.f118.resultTypes.toList (some ((AV.rf 0 kI2, [Blk.row kI2 (vev118s_0 es)]))))
 | _, _ => none
noncomputable def k118s : Gam := spG 118 sp118s k118n
theorem k118s_ok : GamOK Try.prog k118s := spG_ok k118n_ok fun T C r outs hs => by
   unfold sp118s at hs
   split at hs
   ·rename_i es
    obtain ⟨hb, hs⟩ := spW_inv hs
    have he := ev118s es
    rw [hb, cond_true] at he
    obtain ⟨h1, h2⟩ := fn_ok mixed plain (gk_ok k118n_ok 30) Try.func118 (fun c _ => LoopsOK.none (fun _ _ => rfl) c) he
    exact ⟨h1, h2.fin hs⟩
   ·cases hs
noncomputable def sp118c : Sp
 | [.sl _ [.int .i64, .int .i64] es], [] => some (Nat.ble (es.length * 16) 140737488355328, .rf 0 kI2, [.row kI2 es])
 | _, _ => none
noncomputable def k118c : Gam := spG 118 sp118c k118s
theorem k118c_ok : GamOK Try.prog k118c := spG_ok k118s_ok fun T C r outs hs => by
   unfold sp118c at hs
   split at hs
   ·rename_i t es
    injection hs with hs
    injection hs with hb hs
    injection hs with e1 e2
    subst e1 e2
    have hb := Nat.le_of_ble_eq_true hb
    have h1 := fn_ok mixed plain (gk_ok k111c_ok 30) Try.func118 (fun c _ => LoopsOK.none (fun _ _ => rfl) c) ev118n
    have he := ev118s es
    have hok : vev118s_1 es = true := by
     unfold vev118s_1
     rw [decide_eq_true (show (0 + es.length) * 16 ≤ 140737488355328 by omega), decide_eq_true (show 0 + es.length ≤ 9223372036854775807 by omega)]
     rfl
    rw [hok, cond_true] at he
    have h2 := fn_ok mixed plain (gk_ok k118n_ok 30) Try.func118 (fun c _ => LoopsOK.none (fun _ _ => rfl) c) he
    exact ⟨h1.1, clone_ok (by decide) h1.2 (fun h => h) h2.2 t⟩
   ·cases hs
end Go.Proofs.Gv
namespace Go.Proofs.Gv
open Go.Proofs
noncomputable abbrev eF (k : Gam) (lsp : Lsp) (f : Nat) (fn : Func) (T : List AV) (C : List Blk) := evFin (cfg Try.prog tab 100000 (gk k 30) lsp f C.length fn.ntmps) C.length fn.resultTypes.toList fn T C
noncomputable abbrev rV (k : Gam) (rest : Lsp) (f n : Nat) (fn : Func) (i : Nat) := roundV (cfg Try.prog tab 100000 (gk k 30) rest f n fn.ntmps) (loopAt fn i)
noncomputable abbrev lO (k : Gam) (l : Lsp) (f n : Nat) (fn : Func) (i : Nat) := LoopOK1 (cfg Try.prog tab 100000 (gk k 30) l f n fn.ntmps) (loopAt fn i)
noncomputable abbrev lsO (k : Gam) (l : Lsp) (f n : Nat) (fn : Func) (c : Code) := LoopsOK (cfg Try.prog tab 100000 (gk k 30) l f n fn.ntmps) c
theorem okE {k : Gam} {lsp : Lsp} {f : Nat} {fn : Func} {T : List AV} {C : List Blk} {b : Bool} {x : Bool × AV × List Blk} {r : AV} {o : List Blk} (hk : GamOK Try.prog k) (hf : Try.prog.funcs[f]? = some fn)
  (hl : ∀ c, fn.body = some c → LoopsOK (cfg Try.prog tab 100000 (gk k 30) lsp f C.length fn.ntmps) c) (he : eF k lsp f fn T C = bif b then some x else none) (hs : spW b (some x) = some (true, r, o)) : Enters Try.prog f ∧ FnOK Try.prog f T C r (unk C o) := by
 obtain ⟨b', r', o'⟩ := x
 unfold spW at hs
 injection hs with hs
 injection hs with h1 hs
 injection hs with h2 h3
 subst h1 h2 h3
 rw [cond_true] at he
 obtain ⟨r0, o0, h0, he⟩ := evFin_inv he
 have hb := fin_true he
 subst hb
 obtain ⟨h1, h2⟩ := fn_ok mixed plain (gk_ok hk 30) hf hl h0
 exact ⟨h1, h2.fin he⟩
end Go.Proofs.Gv
namespace Go.Proofs.Gv
open Go.Proofs
noncomputable def vev80_0 (n a b : Int) : Bool := bif decide (a ≤ n) then bif true then decide (n ≤ b) else false else false
theorem ev80 (n a b : Int) : eF k118c noLsp 80 Try.f80 [iA n, iA a, iA b] [] = bif true then some (true, AV.bool (vev80_0 n a b), []) else none := by
 refine Eq.trans (b := bif bif decide (a ≤ n) then true else true then some (true, AV.bool (bif decide (a ≤ n) then bif true then decide (n ≤ b) else false else false), []) else none) (by kernel_rfl) ?_
 unfold vev80_0
 generalize (decide (a ≤ n)) = c0
 cases c0
 ·skip
  rfl
 ·skip
  rfl
noncomputable def sp80 : Sp
 | [.int .i64 n, .int .i64 a, .int .i64 b], [] => spW (true) (some ((true, AV.bool (vev80_0 n a b), [])))
 | _, _ => none
noncomputable def k80 : Gam := spG 80 sp80 k118c
theorem k80_ok : GamOK Try.prog k80 := spG_ok k118c_ok fun T C r outs hs => by
   unfold sp80 at hs
   split at hs
   ·rename_i n a b
    obtain ⟨hb, rfl, rfl⟩ := spT_inv hs
    have he := ev80 n a b
    obtain ⟨r0, o0, h0, he⟩ := evFin_inv he
    obtain ⟨h1, h2⟩ := fn_ok mixed plain (gk_ok k118c_ok 30) Try.func80 (fun c _ => LoopsOK.none (fun _ _ => rfl) c) h0
    exact ⟨h1, h2.fin he⟩
   ·cases hs
noncomputable def vev84_0 (a b c d : Int) : Bool := bif vev80_0 a 1 2147483647 then bif bif true then vev80_0 b 0 7 else false then bif bif true then vev80_0 c 1 1099511627776 else false then bif true then vev80_0 d 0 2000 else false else false else false else false
theorem ev84 (a b c d : Int) : eF k80 noLsp 84 Try.f84 [.agg [iA a, iA b, iA c, iA d]] [] = bif true then some (true, AV.bool (vev84_0 a b c d), []) else none := by
 refine Eq.trans (b := bif bif vev80_0 a 1 2147483647 then bif bif true then vev80_0 b 0 7 else false then bif bif true then vev80_0 c 1 1099511627776 else false then true else true else true else true then some (true, AV.bool (bif vev80_0 a 1 2147483647 then bif bif true then vev80_0 b 0 7 else false then bif bif true then vev80_0 c 1 1099511627776 else false then bif true then vev80_0 d 0 2000 else false else false else false else false), []) else none) (by kernel_rfl) ?_
 unfold vev84_0
 generalize (vev80_0 c 1 1099511627776) = c0
 generalize (vev80_0 a 1 2147483647) = c1
 generalize (vev80_0 b 0 7) = c2
 cases c1; rfl; cases c2; rfl; cases c0; rfl; rfl
noncomputable def sp84 : Sp
 | [.agg [.int .i64 a, .int .i64 b, .int .i64 c, .int .i64 d]], [] => spW (true) (some ((true, AV.bool (vev84_0 a b c d), [])))
 | _, _ => none
noncomputable def k84 : Gam := spG 84 sp84 k80
theorem k84_ok : GamOK Try.prog k84 := spG_ok k80_ok fun T C r outs hs => by
   unfold sp84 at hs
   split at hs
   ·rename_i a b c d
    obtain ⟨hb, rfl, rfl⟩ := spT_inv hs
    have he := ev84 a b c d
    obtain ⟨r0, o0, h0, he⟩ := evFin_inv he
    obtain ⟨h1, h2⟩ := fn_ok mixed plain (gk_ok k80_ok 30) Try.func84 (fun c _ => LoopsOK.none (fun _ _ => rfl) c) h0
    exact ⟨h1, h2.fin he⟩
   ·cases hs
theorem ev106 (a b c d : Int) : eF k84 noLsp 106 Try.f106 [.agg [iA a, iA b, iA c, iA d]] [] = some (true, AV.bool !vev84_0 a b c d, []) := by kernel_rfl
noncomputable def sp106 : Sp
 | [.agg [.int .i64 a, .int .i64 b, .int .i64 c, .int .i64 d]], [] => spW (true) (some ((true, AV.bool !vev84_0 a b c d, [])))
 | _, _ => none
noncomputable def k106 : Gam := spG 106 sp106 k84
theorem k106_ok : GamOK Try.prog k106 := spG_ok k84_ok fun T C r outs hs => by
   unfold sp106 at hs
   split at hs
   ·rename_i a b c d
    obtain ⟨hb, rfl, rfl⟩ := spT_inv hs
    have he := ev106 a b c d
    obtain ⟨r0, o0, h0, he⟩ := evFin_inv he
    obtain ⟨h1, h2⟩ := fn_ok mixed plain (gk_ok k84_ok 30) Try.func106 (fun c _ => LoopsOK.none (fun _ _ => rfl) c) h0
    exact ⟨h1, h2.fin he⟩
   ·cases hs
noncomputable def vev108_0 (a b c d id : Int) : Bool := a == id
theorem ev108 (a b c d id : Int) : eF k106 noLsp 108 Try.f108 [.agg [iA a, iA b, iA c, iA d], .hp 0 0] [.var [iA id]] = some (true, AV.bool (vev108_0 a b c d id), [Blk.var [iA id]]) := by kernel_rfl
noncomputable def sp108 : Sp
 | [.agg [.int .i64 a, .int .i64 b, .int .i64 c, .int .i64 d], .hp 0 0], [.var [.int .i64 id]] => spW (true) (some ((true, AV.bool (vev108_0 a b c d id), [Blk.var [iA id]])))
 | _, _ => none
noncomputable def k108 : Gam := spG 108 sp108 k106
theorem k108_ok : GamOK Try.prog k108 := spG_ok k106_ok fun T C r outs hs => by
   unfold sp108 at hs
   split at hs
   ·rename_i a b c d id
    obtain ⟨hb, rfl, rfl⟩ := spT_inv hs
    have he := ev108 a b c d id
    obtain ⟨r0, o0, h0, he⟩ := evFin_inv he
    obtain ⟨h1, h2⟩ := fn_ok mixed plain (gk_ok k106_ok 30) Try.func108 (fun c _ => LoopsOK.none (fun _ _ => rfl) c) h0
    exact ⟨h1, h2.fin he⟩
   ·cases hs
noncomputable def vev115_0 (a b c d l : Int) (tk : Tk) (es : LL) : Bool := decide (d ≥ l)
theorem ev115 (a b c d l : Int) (tk : Tk) (es : LL) : eF k108 noLsp 115 Try.f115 [.agg [iA a, iA b, iA c, iA d], .hp 0 0] [.var [iA l, .sl tk kI4 es]] = some (true, AV.bool (vev115_0 a b c d l tk es), [Blk.var [iA l, AV.sl tk kI4 es]]) := by kernel_rfl
noncomputable def sp115 : Sp
 | [.agg [.int .i64 a, .int .i64 b, .int .i64 c, .int .i64 d], .hp 0 0], [.var [.int .i64 l, .sl tk [.int .i64, .int .i64, .int .i64, .int .i64] es]] => spW (true) (some ((true, AV.bool (vev115_0 a b c d l tk es), [Blk.var [iA l, AV.sl tk kI4 es]])))
 | _, _ => none
noncomputable def k115 : Gam := spG 115 sp115 k108
theorem k115_ok : GamOK Try.prog k115 := spG_ok k108_ok fun T C r outs hs => by
   unfold sp115 at hs
   split at hs
   ·rename_i a b c d l tk es
    obtain ⟨hb, rfl, rfl⟩ := spT_inv hs
    have he := ev115 a b c d l tk es
    obtain ⟨r0, o0, h0, he⟩ := evFin_inv he
    obtain ⟨h1, h2⟩ := fn_ok mixed plain (gk_ok k108_ok 30) Try.func115 (fun c _ => LoopsOK.none (fun _ _ => rfl) c) h0
    exact ⟨h1, h2.fin he⟩
   ·cases hs
noncomputable def vev117_0 (a b c d a2 b2 c2 d2 : Int) : Int := IntKind.i64.wrap (b - b2)
theorem ev117 (a b c d a2 b2 c2 d2 : Int) : eF k115 noLsp 117 Try.f117 [.agg [iA a, iA b, iA c, iA d], .agg [iA a2, iA b2, iA c2, iA d2]] [] = some (true, iA (vev117_0 a b c d a2 b2 c2 d2), []) := by kernel_rfl
noncomputable def sp117 : Sp
 | [.agg [.int .i64 a, .int .i64 b, .int .i64 c, .int .i64 d], .agg [.int .i64 a2, .int .i64 b2, .int .i64 c2, .int .i64 d2]], [] => spW (true) (some ((true, iA (vev117_0 a b c d a2 b2 c2 d2), [])))
 | _, _ => none
noncomputable def k117 : Gam := spG 117 sp117 k115
theorem k117_ok : GamOK Try.prog k117 := spG_ok k115_ok fun T C r outs hs => by
   unfold sp117 at hs
   split at hs
   ·rename_i a b c d a2 b2 c2 d2
    obtain ⟨hb, rfl, rfl⟩ := spT_inv hs
    have he := ev117 a b c d a2 b2 c2 d2
    obtain ⟨r0, o0, h0, he⟩ := evFin_inv he
    obtain ⟨h1, h2⟩ := fn_ok mixed plain (gk_ok k115_ok 30) Try.func117 (fun c _ => LoopsOK.none (fun _ _ => rfl) c) h0
    exact ⟨h1, h2.fin he⟩
   ·cases hs
noncomputable def go107a_2 (d : Tk) (a : LL) (b c e : Int) : Bool := bif decide (c < b) then bif decide (0 ≤ c) && decide (c < (↑a.length : Int)) then bif vev108_0 (intOf ((a.getD c.toNat []).getD 0 AV.junk)) (intOf ((a.getD c.toNat []).getD (0 + 1) AV.junk)) (intOf ((a.getD c.toNat []).getD (0 + 1 + 1) AV.junk)) (intOf ((a.getD c.toNat []).getD (0 + 1 + 1 + 1) AV.junk)) e then false else true else false else false
noncomputable def nx107a_2_3 (d : Tk) (a : LL) (b c e : Int) : Int := IntKind.i64.wrap (c + 1)
noncomputable def xc107a_2_0 (d : Tk) (a : LL) (b c e : Int) : Bool := bif decide (c < b) then bif decide (0 ≤ c) && decide (c < (↑a.length : Int)) then vev108_0 (intOf ((a.getD c.toNat []).getD 0 AV.junk)) (intOf ((a.getD c.toNat []).getD (0 + 1) AV.junk)) (intOf ((a.getD c.toNat []).getD (0 + 1 + 1) AV.junk)) (intOf ((a.getD c.toNat []).getD (0 + 1 + 1 + 1) AV.junk)) e else false else false
noncomputable def xc107a_2_1 (d : Tk) (a : LL) (b c e : Int) : Bool := bif decide (c < b) then false else true
theorem rd107a_2 (rest : Lsp) (d : Tk) (a : LL) (b c e : Int) : rV k117 rest 107 1 Try.f107 2 [0, 1, 7, 8] [0] [4] [0] [AV.sl d kI4 a, AV.fn 108 [AV.hp 0 0], iA b, iA c] [Blk.var [iA e]] = bif go107a_2 d a b c e then some (Ex.norm, [AV.sl d kI4 a, AV.fn 108 [AV.hp 0 0], iA b, iA (nx107a_2_3 d a b c e)], [Blk.var [iA e]]) else bif xc107a_2_0 d a b c e then some (Ex.ret, [iA c], [Blk.var [iA e]]) else bif xc107a_2_1 d a b c e then some (Ex.exit 0, [AV.junk], [Blk.var [iA e]]) else none := by
 refine Eq.trans (b := bif decide (c < b) then bif decide (0 ≤ c) && decide (c < (↑a.length : Int)) then bif vev108_0 (intOf ((a.getD c.toNat []).getD 0 AV.junk)) (intOf ((a.getD c.toNat []).getD (0 + 1) AV.junk)) (intOf ((a.getD c.toNat []).getD (0 + 1 + 1) AV.junk)) (intOf ((a.getD c.toNat []).getD (0 + 1 + 1 + 1) AV.junk)) e then some (Ex.ret, [iA c], [Blk.var [iA e]]) else some (Ex.norm, [AV.sl d kI4 a, AV.fn 108 [AV.hp 0 0], iA b, iA (IntKind.i64.wrap (c + 1))], [Blk.var [iA e]]) else none else some (Ex.exit 0, [AV.junk], [Blk.var [iA e]])) (by kernel_rfl) ?_
 unfold go107a_2 nx107a_2_3 xc107a_2_0 xc107a_2_1
 generalize (vev108_0 _ _ _ _ _) = c0
 generalize (decide (0 ≤ c) && decide (c < (↑a.length : Int))) = c1
 generalize (decide (c < b)) = c2
 cases c2; rfl; cases c1; rfl; cases c0; rfl; rfl
abbrev pl107a_2 : Type := Tk × LL × Int × Int
abbrev sl107a_2 : Type := Int
noncomputable def vt107a_2 (a : pl107a_2 × sl107a_2) : List AV := [AV.sl a.1.1 kI4 a.1.2.1, AV.fn 108 [AV.hp 0 0], iA a.1.2.2.1, iA a.2]
noncomputable def vc107a_2 (a : pl107a_2 × sl107a_2) : List Blk := [Blk.var [iA a.1.2.2.2]]
noncomputable def de107a_2 (vt : List AV) (vc : List Blk) : Option (pl107a_2 × sl107a_2) :=
 match vt with
 | [qa0, qa1, qa2, qa3] => (match vc with
 | [qb0] => (match qa0 with
 | .sl t0k [.int .i64, .int .i64, .int .i64, .int .i64] t0 => (match qa1 with
 | AV.fn (108) [AV.hp (0) (0)] => (match qa2 with
 | .int .i64 t7 => (match qa3 with
 | .int .i64 t8 => (match qb0 with
 | .var [.int .i64 b0_0] => (some ((t0k, t0, t7, b0_0), t8))
 | _ => none)
 | _ => none)
 | _ => none)
 | _ => none)
 | _ => none)
 | _ => none)
 | _ => none
theorem de107a_2_ok (vt : List AV) (vc : List Blk) (a : pl107a_2 × sl107a_2) (h : de107a_2 vt vc = some a) : vt = vt107a_2 a ∧ vc = vc107a_2 a := by
 unfold de107a_2 at h
 iterate 7 (split at h; rotate_left; · cases h)
 injection h with h; subst h; exact ⟨rfl, rfl⟩
noncomputable def g107a_2 (p : pl107a_2) (s : sl107a_2) : Bool := go107a_2 p.1 p.2.1 p.2.2.1 s p.2.2.2
noncomputable def n107a_2 (p : pl107a_2) (s : sl107a_2) : sl107a_2 := nx107a_2_3 p.1 p.2.1 p.2.2.1 s p.2.2.2
noncomputable def y107a_2 (p : pl107a_2) (s : sl107a_2) : List (Bool × Out) := [(xc107a_2_0 p.1 p.2.1 p.2.2.1 s p.2.2.2, (Ex.ret, [iA s], [Blk.var [iA p.2.2.2]]))]
noncomputable def z107a_2 (p : pl107a_2) (s : sl107a_2) : Bool := xc107a_2_1 p.1 p.2.1 p.2.2.1 s p.2.2.2
noncomputable def d107a_2 (p : pl107a_2) (s : sl107a_2) : Out := (Ex.exit 0, [AV.junk], [Blk.var [iA p.2.2.2]])
noncomputable def ls107a_2 := lspOf [0, 1, 7, 8] [0] [4] [0] Try.f107.ntmps (1 + tab.nid 107) de107a_2 (spI g107a_2 n107a_2 y107a_2 z107a_2 d107a_2)
theorem lo107a_2 (rest : Lsp) : lO k117 (selL 2 ls107a_2 rest) 107 1 Try.f107 2 := LoopOK1.iter (i := 2) (by kernel_rfl) [0, 1, 7, 8] [0] [4] [0] vt107a_2 vc107a_2 de107a_2 g107a_2 n107a_2 y107a_2 z107a_2 d107a_2 (fun _ => rfl) de107a_2_ok (fun p s => rd107a_2 (selL 2 ls107a_2 rest) (p.1) (p.2.1) (p.2.2.1) s (p.2.2.2)) (fun _ _ => rfl)
noncomputable def lsp107a : Lsp := (selL 2 ls107a_2 noLsp)
theorem loops107a : ∀ c, Try.f107.body = some c → lsO k117 lsp107a 107 1 Try.f107 c := loops_of [2] (by kernel_rfl) (by kernel_rfl) (fun i hi => by simp only [List.mem_cons, List.not_mem_nil, or_false] at hi; subst hi; exact lo107a_2 noLsp)
noncomputable def rev107a_0 (tk : Tk) (es : LL) (id : Int) : sl107a_2 := finL (g107a_2 (tk, es, (↑es.length : Int), id)) (n107a_2 (tk, es, (↑es.length : Int), id)) 0
noncomputable def vev107a_0 (tk : Tk) (es : LL) (id : Int) : sl107a_2 := bif xc107a_2_0 tk es (↑es.length : Int) (rev107a_0 tk es id) id then rev107a_0 tk es id else (-1)
noncomputable def vev107a_1 (tk : Tk) (es : LL) (id : Int) : Bool := bif (spI g107a_2 n107a_2 y107a_2 z107a_2 d107a_2 ((tk, es, (↑es.length : Int), id), 0)).fst then true else false
theorem ev107a (tk : Tk) (es : LL) (id : Int) : eF k117 lsp107a 107 Try.f107 [.sl tk kI4 es, .fn 108 [.hp 0 0]] [.var [iA id]] = bif vev107a_1 tk es id then some (true, iA (vev107a_0 tk es id), [Blk.var [iA id]]) else none := by
 refine Eq.trans (b := bif (spI g107a_2 n107a_2 y107a_2 z107a_2 d107a_2 ((tk, es, (↑es.length : Int), id), 0)).fst then bif xc107a_2_0 tk es (↑es.length : Int) (rev107a_0 tk es id) id then some (true, iA (rev107a_0 tk es id), [Blk.var [iA id]]) else some (true, iA (-1), [Blk.var [iA id]]) else none) (by kernel_rfl) ?_
 unfold vev107a_0 vev107a_1
 generalize (spI g107a_2 _ _ _ _ _).fst = c0
 generalize (xc107a_2_0 _ _ _ _ _) = c1
 cases c0; rfl; cases c1; rfl; rfl
noncomputable def sp107a : Sp
 | [.sl tk [.int .i64, .int .i64, .int .i64, .int .i64] es, .fn 108 [.hp 0 0]], [.var [.int .i64 id]] => spW (vev107a_1 tk es id) (some ((true, iA (vev107a_0 tk es id), [Blk.var [iA id]])))
 | _, _ => none
noncomputable def k107a : Gam := spG 107 sp107a k117
theorem k107a_ok : GamOK Try.prog k107a := spG_ok k117_ok fun T C r outs hs => by
   unfold sp107a at hs
   split at hs
   ·exact okE k117_ok Try.func107 loops107a (ev107a _ _ _) hs
   ·cases hs
noncomputable def go107b_2 (d : Tk) (a : LL) (b c e : Int) (g : Tk) (f : LL) : Bool := bif decide (c < b) then bif decide (0 ≤ c) && decide (c < (↑a.length : Int)) then bif vev115_0 (intOf ((a.getD c.toNat []).getD 0 AV.junk)) (intOf ((a.getD c.toNat []).getD (0 + 1) AV.junk)) (intOf ((a.getD c.toNat []).getD (0 + 1 + 1) AV.junk)) (intOf ((a.getD c.toNat []).getD (0 + 1 + 1 + 1) AV.junk)) e g f then false else true else false else false
noncomputable def nx107b_2_3 (d : Tk) (a : LL) (b c e : Int) (g : Tk) (f : LL) : Int := IntKind.i64.wrap (c + 1)
noncomputable def xc107b_2_0 (d : Tk) (a : LL) (b c e : Int) (g : Tk) (f : LL) : Bool := bif decide (c < b) then bif decide (0 ≤ c) && decide (c < (↑a.length : Int)) then vev115_0 (intOf ((a.getD c.toNat []).getD 0 AV.junk)) (intOf ((a.getD c.toNat []).getD (0 + 1) AV.junk)) (intOf ((a.getD c.toNat []).getD (0 + 1 + 1) AV.junk)) (intOf ((a.getD c.toNat []).getD (0 + 1 + 1 + 1) AV.junk)) e g f else false else false
noncomputable def xc107b_2_1 (d : Tk) (a : LL) (b c e : Int) (g : Tk) (f : LL) : Bool := bif decide (c < b) then false else true
theorem rd107b_2 (rest : Lsp) (d : Tk) (a : LL) (b c e : Int) (g : Tk) (f : LL) : rV k107a rest 107 1 Try.f107 2 [0, 1, 7, 8] [0] [4] [0] [AV.sl d kI4 a, AV.fn 115 [AV.hp 0 0], iA b, iA c] [Blk.var [iA e, AV.sl g kI4 f]] = bif go107b_2 d a b c e g f then some (Ex.norm, [AV.sl d kI4 a, AV.fn 115 [AV.hp 0 0], iA b, iA (nx107b_2_3 d a b c e g f)], [Blk.var [iA e, AV.sl g kI4 f]]) else bif xc107b_2_0 d a b c e g f then some (Ex.ret, [iA c], [Blk.var [iA e, AV.sl g kI4 f]]) else bif xc107b_2_1 d a b c e g f then some (Ex.exit 0, [AV.junk], [Blk.var [iA e, AV.sl g kI4 f]]) else none := by
 refine Eq.trans (b := bif decide (c < b) then bif decide (0 ≤ c) && decide (c < (↑a.length : Int)) then bif vev115_0 (intOf ((a.getD c.toNat []).getD 0 AV.junk)) (intOf ((a.getD c.toNat []).getD (0 + 1) AV.junk)) (intOf ((a.getD c.toNat []).getD (0 + 1 + 1) AV.junk)) (intOf ((a.getD c.toNat []).getD (0 + 1 + 1 + 1) AV.junk)) e g f then some (Ex.ret, [iA c], [Blk.var [iA e, AV.sl g kI4 f]]) else some (Ex.norm, [AV.sl d kI4 a, AV.fn 115 [AV.hp 0 0], iA b, iA (IntKind.i64.wrap (c + 1))], [Blk.var [iA e, AV.sl g kI4 f]]) else none else some (Ex.exit 0, [AV.junk], [Blk.var [iA e, AV.sl g kI4 f]])) (by kernel_rfl) ?_
 unfold go107b_2 nx107b_2_3 xc107b_2_0 xc107b_2_1
 generalize (vev115_0 _ _ _ _ _ _ _) = c0
 generalize (decide (0 ≤ c) && decide (c < (↑a.length : Int))) = c1
 generalize (decide (c < b)) = c2
 cases c2; rfl; cases c1; rfl; cases c0; rfl; rfl
abbrev pl107b_2 : Type := Tk × LL × Int × Int × Tk × LL
abbrev sl107b_2 : Type := Int
noncomputable def vt107b_2 (a : pl107b_2 × sl107b_2) : List AV := [AV.sl a.1.1 kI4 a.1.2.1, AV.fn 115 [AV.hp 0 0], iA a.1.2.2.1, iA a.2]
noncomputable def vc107b_2 (a : pl107b_2 × sl107b_2) : List Blk := [Blk.var [iA a.1.2.2.2.1, AV.sl a.1.2.2.2.2.1 kI4 a.1.2.2.2.2.2]]
noncomputable def de107b_2 (vt : List AV) (vc : List Blk) : Option (pl107b_2 × sl107b_2) :=
 match vt with
 | [qa0, qa1, qa2, qa3] => (match vc with
 | [qb0] => (match qa0 with
 | .sl t0k [.int .i64, .int .i64, .int .i64, .int .i64] t0 => (match qa1 with
 | AV.fn (115) [AV.hp (0) (0)] => (match qa2 with
 | .int .i64 t7 => (match qa3 with
 | .int .i64 t8 => (match qb0 with
 | .var [.int .i64 b0_0, .sl b0_1k [.int .i64, .int .i64, .int .i64, .int .i64] b0_1] => (some ((t0k, t0, t7, b0_0, b0_1k, b0_1), t8))
 | _ => none)
 | _ => none)
 | _ => none)
 | _ => none)
 | _ => none)
 | _ => none)
 | _ => none
theorem de107b_2_ok (vt : List AV) (vc : List Blk) (a : pl107b_2 × sl107b_2) (h : de107b_2 vt vc = some a) : vt = vt107b_2 a ∧ vc = vc107b_2 a := by
 unfold de107b_2 at h
 iterate 7 (split at h; rotate_left; · cases h)
 injection h with h; subst h; exact ⟨rfl, rfl⟩
noncomputable def g107b_2 (p : pl107b_2) (s : sl107b_2) : Bool := go107b_2 p.1 p.2.1 p.2.2.1 s p.2.2.2.1 p.2.2.2.2.1 p.2.2.2.2.2
noncomputable def n107b_2 (p : pl107b_2) (s : sl107b_2) : sl107b_2 := nx107b_2_3 p.1 p.2.1 p.2.2.1 s p.2.2.2.1 p.2.2.2.2.1 p.2.2.2.2.2
noncomputable def y107b_2 (p : pl107b_2) (s : sl107b_2) : List (Bool × Out) := [(xc107b_2_0 p.1 p.2.1 p.2.2.1 s p.2.2.2.1 p.2.2.2.2.1 p.2.2.2.2.2, (Ex.ret, [iA s], [Blk.var [iA p.2.2.2.1, AV.sl p.2.2.2.2.1 kI4 p.2.2.2.2.2]]))]
noncomputable def z107b_2 (p : pl107b_2) (s : sl107b_2) : Bool := xc107b_2_1 p.1 p.2.1 p.2.2.1 s p.2.2.2.1 p.2.2.2.2.1 p.2.2.2.2.2
noncomputable def d107b_2 (p : pl107b_2) (s : sl107b_2) : Out := (Ex.exit 0, [AV.junk], [Blk.var [iA p.2.2.2.1, AV.sl p.2.2.2.2.1 kI4 p.2.2.2.2.2]])
noncomputable def ls107b_2 := lspOf [0, 1, 7, 8] [0] [4] [0] Try.f107.ntmps (1 + tab.nid 107) de107b_2 (spI g107b_2 n107b_2 y107b_2 z107b_2 d107b_2)
theorem lo107b_2 (rest : Lsp) : lO k107a (selL 2 ls107b_2 rest) 107 1 Try.f107 2 := LoopOK1.iter (i := 2) (by kernel_rfl) [0, 1, 7, 8] [0] [4] [0] vt107b_2 vc107b_2 de107b_2 g107b_2 n107b_2 y107b_2 z107b_2 d107b_2 (fun _ => rfl) de107b_2_ok (fun p s => rd107b_2 (selL 2 ls107b_2 rest) (p.1) (p.2.1) (p.2.2.1) s (p.2.2.2.1) (p.2.2.2.2.1) (p.2.2.2.2.2)) (fun _ _ => rfl)
noncomputable def lsp107b : Lsp := (selL 2 ls107b_2 noLsp)
theorem loops107b : ∀ c, Try.f107.body = some c → lsO k107a lsp107b 107 1 Try.f107 c := loops_of [2] (by kernel_rfl) (by kernel_rfl) (fun i hi => by simp only [List.mem_cons, List.not_mem_nil, or_false] at hi; subst hi; exact lo107b_2 noLsp)
noncomputable def rev107b_0 (tk : Tk) (es : LL) (l : Int) (tk2 : Tk) (es2 : LL) : sl107b_2 := finL (g107b_2 (tk, es, (↑es.length : Int), l, tk2, es2)) (n107b_2 (tk, es, (↑es.length : Int), l, tk2, es2)) 0
noncomputable def vev107b_0 (tk : Tk) (es : LL) (l : Int) (tk2 : Tk) (es2 : LL) : sl107b_2 := bif xc107b_2_0 tk es (↑es.length : Int) (rev107b_0 tk es l tk2 es2) l tk2 es2 then rev107b_0 tk es l tk2 es2 else (-1)
noncomputable def vev107b_1 (tk : Tk) (es : LL) (l : Int) (tk2 : Tk) (es2 : LL) : Bool := bif (spI g107b_2 n107b_2 y107b_2 z107b_2 d107b_2 ((tk, es, (↑es.length : Int), l, tk2, es2), 0)).fst then true else false
theorem ev107b (tk : Tk) (es : LL) (l : Int) (tk2 : Tk) (es2 : LL) : eF k107a lsp107b 107 Try.f107 [.sl tk kI4 es, .fn 115 [.hp 0 0]] [.var [iA l, .sl tk2 kI4 es2]] = bif vev107b_1 tk es l tk2 es2 then some (true, iA (vev107b_0 tk es l tk2 es2), [Blk.var [iA l, AV.sl tk2 kI4 es2]]) else none := by
 refine Eq.trans (b := bif (spI g107b_2 n107b_2 y107b_2 z107b_2 d107b_2 ((tk, es, (↑es.length : Int), l, tk2, es2), 0)).fst then bif xc107b_2_0 tk es (↑es.length : Int) (rev107b_0 tk es l tk2 es2) l tk2 es2 then some (true, iA (rev107b_0 tk es l tk2 es2), [Blk.var [iA l, AV.sl tk2 kI4 es2]]) else some (true, iA (-1), [Blk.var [iA l, AV.sl tk2 kI4 es2]]) else none) (by kernel_rfl) ?_
 unfold vev107b_0 vev107b_1
 generalize (spI g107b_2 _ _ _ _ _).fst = c0
 generalize (xc107b_2_0 _ _ _ _ _ _ _) = c1
 cases c0; rfl; cases c1; rfl; rfl
noncomputable def sp107b : Sp
 | [.sl tk [.int .i64, .int .i64, .int .i64, .int .i64] es, .fn 115 [.hp 0 0]], [.var [.int .i64 l, .sl tk2 [.int .i64, .int .i64, .int .i64, .int .i64] es2]] => spW (vev107b_1 tk es l tk2 es2) (some ((true, iA (vev107b_0 tk es l tk2 es2), [Blk.var [iA l, AV.sl tk2 kI4 es2]])))
 | _, _ => none
noncomputable def k107b : Gam := spG 107 sp107b k107a
theorem k107b_ok : GamOK Try.prog k107b := spG_ok k107a_ok fun T C r outs hs => by
   unfold sp107b at hs
   split at hs
   ·exact okE k107a_ok Try.func107 loops107b (ev107b _ _ _ _ _) hs
   ·cases hs
noncomputable def go107c_2 (d : Tk) (a : LL) (b c : Int) : Bool := bif decide (c < b) then bif decide (0 ≤ c) && decide (c < (↑a.length : Int)) then bif !vev84_0 (intOf ((a.getD c.toNat []).getD 0 AV.junk)) (intOf ((a.getD c.toNat []).getD (0 + 1) AV.junk)) (intOf ((a.getD c.toNat []).getD (0 + 1 + 1) AV.junk)) (intOf ((a.getD c.toNat []).getD (0 + 1 + 1 + 1) AV.junk)) then false else true else false else false
noncomputable def nx107c_2_3 (d : Tk) (a : LL) (b c : Int) : Int := IntKind.i64.wrap (c + 1)
noncomputable def xc107c_2_0 (d : Tk) (a : LL) (b c : Int) : Bool := bif decide (c < b) then bif decide (0 ≤ c) && decide (c < (↑a.length : Int)) then !vev84_0 (intOf ((a.getD c.toNat []).getD 0 AV.junk)) (intOf ((a.getD c.toNat []).getD (0 + 1) AV.junk)) (intOf ((a.getD c.toNat []).getD (0 + 1 + 1) AV.junk)) (intOf ((a.getD c.toNat []).getD (0 + 1 + 1 + 1) AV.junk)) else false else false
noncomputable def xc107c_2_1 (d : Tk) (a : LL) (b c : Int) : Bool := bif decide (c < b) then false else true
theorem rd107c_2 (rest : Lsp) (d : Tk) (a : LL) (b c : Int) : rV k107b rest 107 0 Try.f107 2 [0, 1, 7, 8] [] [4] [] [AV.sl d kI4 a, AV.fn 106 [], iA b, iA c] [] = bif go107c_2 d a b c then some (Ex.norm, [AV.sl d kI4 a, AV.fn 106 [], iA b, iA (nx107c_2_3 d a b c)], []) else bif xc107c_2_0 d a b c then some (Ex.ret, [iA c], []) else bif xc107c_2_1 d a b c then some (Ex.exit 0, [AV.junk], []) else none := by
 refine Eq.trans (b := bif decide (c < b) then bif decide (0 ≤ c) && decide (c < (↑a.length : Int)) then bif !vev84_0 (intOf ((a.getD c.toNat []).getD 0 AV.junk)) (intOf ((a.getD c.toNat []).getD (0 + 1) AV.junk)) (intOf ((a.getD c.toNat []).getD (0 + 1 + 1) AV.junk)) (intOf ((a.getD c.toNat []).getD (0 + 1 + 1 + 1) AV.junk)) then some (Ex.ret, [iA c], []) else some (Ex.norm, [AV.sl d kI4 a, AV.fn 106 [], iA b, iA (IntKind.i64.wrap (c + 1))], []) else none else some (Ex.exit 0, [AV.junk], [])) (by kernel_rfl) ?_
 unfold go107c_2 nx107c_2_3 xc107c_2_0 xc107c_2_1
 generalize (!vev84_0 _ _ _ _) = c0
 generalize (decide (0 ≤ c) && decide (c < (↑a.length : Int))) = c1
 generalize (decide (c < b)) = c2
 cases c2; rfl; cases c1; rfl; cases c0; rfl; rfl
abbrev pl107c_2 : Type := Tk × LL × Int
abbrev sl107c_2 : Type := Int
noncomputable def vt107c_2 (a : pl107c_2 × sl107c_2) : List AV := [AV.sl a.1.1 kI4 a.1.2.1, AV.fn 106 [], iA a.1.2.2, iA a.2]
noncomputable def vc107c_2 (a : pl107c_2 × sl107c_2) : List Blk := []
noncomputable def de107c_2 (vt : List AV) (vc : List Blk) : Option (pl107c_2 × sl107c_2) :=
 match vt with
 | [qa0, qa1, qa2, qa3] => (match vc with
 | [] => (match qa0 with
 | .sl t0k [.int .i64, .int .i64, .int .i64, .int .i64] t0 => (match qa1 with
 | AV.fn (106) [] => (match qa2 with
 | .int .i64 t7 => (match qa3 with
 | .int .i64 t8 => (some ((t0k, t0, t7), t8))
 | _ => none)
 | _ => none)
 | _ => none)
 | _ => none)
 | _ => none)
 | _ => none
theorem de107c_2_ok (vt : List AV) (vc : List Blk) (a : pl107c_2 × sl107c_2) (h : de107c_2 vt vc = some a) : vt = vt107c_2 a ∧ vc = vc107c_2 a := by
 unfold de107c_2 at h
 iterate 6 (split at h; rotate_left; · cases h)
 injection h with h; subst h; exact ⟨rfl, rfl⟩
noncomputable def g107c_2 (p : pl107c_2) (s : sl107c_2) : Bool := go107c_2 p.1 p.2.1 p.2.2 s
noncomputable def n107c_2 (p : pl107c_2) (s : sl107c_2) : sl107c_2 := nx107c_2_3 p.1 p.2.1 p.2.2 s
noncomputable def y107c_2 (p : pl107c_2) (s : sl107c_2) : List (Bool × Out) := [(xc107c_2_0 p.1 p.2.1 p.2.2 s, (Ex.ret, [iA s], []))]
noncomputable def z107c_2 (p : pl107c_2) (s : sl107c_2) : Bool := xc107c_2_1 p.1 p.2.1 p.2.2 s
noncomputable def d107c_2 (p : pl107c_2) (s : sl107c_2) : Out := (Ex.exit 0, [AV.junk], [])
noncomputable def ls107c_2 := lspOf [0, 1, 7, 8] [] [4] [] Try.f107.ntmps (0 + tab.nid 107) de107c_2 (spI g107c_2 n107c_2 y107c_2 z107c_2 d107c_2)
theorem lo107c_2 (rest : Lsp) : lO k107b (selL 2 ls107c_2 rest) 107 0 Try.f107 2 := LoopOK1.iter (i := 2) (by kernel_rfl) [0, 1, 7, 8] [] [4] [] vt107c_2 vc107c_2 de107c_2 g107c_2 n107c_2 y107c_2 z107c_2 d107c_2 (fun _ => rfl) de107c_2_ok (fun p s => rd107c_2 (selL 2 ls107c_2 rest) (p.1) (p.2.1) (p.2.2) s) (fun _ _ => rfl)
noncomputable def lsp107c : Lsp := (selL 2 ls107c_2 noLsp)
theorem loops107c : ∀ c, Try.f107.body = some c → lsO k107b lsp107c 107 0 Try.f107 c := loops_of [2] (by kernel_rfl) (by kernel_rfl) (fun i hi => by simp only [List.mem_cons, List.not_mem_nil, or_false] at hi; subst hi; exact lo107c_2 noLsp)
noncomputable def rev107c_0 (tk : Tk) (es : LL) : sl107c_2 := finL (g107c_2 (tk, es, (↑es.length : Int))) (n107c_2 (tk, es, (↑es.length : Int))) 0
noncomputable def vev107c_0 (tk : Tk) (es : LL) : sl107c_2 := bif xc107c_2_0 tk es (↑es.length : Int) (rev107c_0 tk es) then rev107c_0 tk es else (-1)
noncomputable def vev107c_1 (tk : Tk) (es : LL) : Bool := bif (spI g107c_2 n107c_2 y107c_2 z107c_2 d107c_2 ((tk, es, (↑es.length : Int)), 0)).fst then true else false
theorem ev107c (tk : Tk) (es : LL) : eF k107b lsp107c 107 Try.f107 [.sl tk kI4 es, .fn 106 []] [] = bif vev107c_1 tk es then some (true, iA (vev107c_0 tk es), []) else none := by
 refine Eq.trans (b := bif (spI g107c_2 n107c_2 y107c_2 z107c_2 d107c_2 ((tk, es, (↑es.length : Int)), 0)).fst then bif xc107c_2_0 tk es (↑es.length : Int) (rev107c_0 tk es) then some (true, iA (rev107c_0 tk es), []) else some (true, iA (-1), []) else none) (by kernel_rfl) ?_
 unfold vev107c_0 vev107c_1
 generalize (spI g107c_2 _ _ _ _ _).fst = c0
 generalize (xc107c_2_0 _ _ _ _) = c1
 cases c0; rfl; cases c1; rfl; rfl
noncomputable def sp107c : Sp
 | [.sl tk [.int .i64, .int .i64, .int .i64, .int .i64] es, .fn 106 []], [] => spW (vev107c_1 tk es) (some ((true, iA (vev107c_0 tk es), [])))
 | _, _ => none
noncomputable def k107c : Gam := spG 107 sp107c k107b
theorem k107c_ok : GamOK Try.prog k107c := spG_ok k107b_ok fun T C r outs hs => by
   unfold sp107c at hs
   split at hs
   ·exact okE k107b_ok Try.func107 loops107c (ev107c _ _) hs
   ·cases hs
noncomputable def vev105_0 (tk : Tk) (es : LL) : Bool := decide (vev107c_0 tk es ≥ 0)
noncomputable def vev105_1 (tk : Tk) (es : LL) : Bool := bif vev107c_1 tk es then true else false
theorem ev105 (tk : Tk) (es : LL) : eF k107c noLsp 105 Try.f105 [.sl tk kI4 es, .fn 106 []] [] = bif vev105_1 tk es then some (true, AV.bool (vev105_0 tk es), []) else none := by
 refine Eq.trans (b := bif vev107c_1 tk es then some (true, AV.bool (decide (vev107c_0 tk es ≥ 0)), []) else none) (by kernel_rfl) ?_
 unfold vev105_0 vev105_1
 generalize (vev107c_1 _ _) = c0
 cases c0
 ·skip
  rfl
 ·skip
  rfl
noncomputable def sp105 : Sp
 | [.sl tk [.int .i64, .int .i64, .int .i64, .int .i64] es, .fn 106 []], [] => spW (vev105_1 tk es) (some ((true, AV.bool (vev105_0 tk es), [])))
 | _, _ => none
noncomputable def k105 : Gam := spG 105 sp105 k107c
theorem k105_ok : GamOK Try.prog k105 := spG_ok k107c_ok fun T C r outs hs => by
   unfold sp105 at hs
   split at hs
   ·exact okE k107c_ok Try.func105 (fun c _ => LoopsOK.none (fun _ _ => rfl) c) (ev105 _ _) hs
   ·cases hs
noncomputable def rn116_5_0 (c : Tk) (a : LL) (b d e f g h i j k : Int) : Int := intOf ((a.getD b.toNat []).getD 0 AV.junk)
noncomputable def rn116_5_1 (c : Tk) (a : LL) (b d e f g h i j k : Int) : Int := intOf ((a.getD b.toNat []).getD (0 + 1) AV.junk)
noncomputable def rn116_5_2 (c : Tk) (a : LL) (b d e f g h i j k : Int) : Int := intOf ((a.getD b.toNat []).getD (0 + 1 + 1) AV.junk)
noncomputable def rn116_5_3 (c : Tk) (a : LL) (b d e f g h i j k : Int) : Int := intOf ((a.getD b.toNat []).getD (0 + 1 + 1 + 1) AV.junk)
noncomputable def rn116_5_4 (c : Tk) (a : LL) (b d e f g h i j k : Int) : Int := vev117_0 (rn116_5_0 c a b d e f g h i j k) (rn116_5_1 c a b d e f g h i j k) (rn116_5_2 c a b d e f g h i j k) (rn116_5_3 c a b d e f g h i j k) d e f g
noncomputable def go116_5 (c : Tk) (a : LL) (b d e f g h i j k : Int) : Bool := bif decide (b < (↑a.length : Int)) then decide (0 ≤ b) && decide (b < (↑a.length : Int)) else false
noncomputable def nx116_5_2 (c : Tk) (a : LL) (b d e f g h i j k : Int) : Int := IntKind.i64.wrap (b + 1)
noncomputable def nx116_5_3 (c : Tk) (a : LL) (b d e f g h i j k : Int) : Int := bif decide (rn116_5_4 c a b d e f g h i j k < 0) then rn116_5_0 c a b d e f g h i j k else d
noncomputable def nx116_5_4 (c : Tk) (a : LL) (b d e f g h i j k : Int) : Int := bif decide (rn116_5_4 c a b d e f g h i j k < 0) then rn116_5_1 c a b d e f g h i j k else e
noncomputable def nx116_5_5 (c : Tk) (a : LL) (b d e f g h i j k : Int) : Int := bif decide (rn116_5_4 c a b d e f g h i j k < 0) then rn116_5_2 c a b d e f g h i j k else f
noncomputable def nx116_5_6 (c : Tk) (a : LL) (b d e f g h i j k : Int) : Int := bif decide (rn116_5_4 c a b d e f g h i j k < 0) then rn116_5_3 c a b d e f g h i j k else g
noncomputable def xc116_5_0 (c : Tk) (a : LL) (b d e f g h i j k : Int) : Bool := bif decide (b < (↑a.length : Int)) then false else true
theorem rd116_5 (rest : Lsp) (c : Tk) (a : LL) (b d e f g i j k l : Int) : rV k105 rest 116 0 Try.f116 5 [0, 1, 4, 5, 6] [0, 1] [4, 5] [0, 1] [AV.sl c kI4 a, AV.fn 117 [], AV.hp 1 0, AV.hp 0 0, iA b] [Blk.var [iA d, iA e, iA f, iA g], Blk.var [iA i, iA j, iA k, iA l]] = bif go116_5 c a b d e f g i j k l then some (Ex.norm, [AV.sl c kI4 a, AV.fn 117 [], AV.hp 1 0, AV.hp 0 0, iA (nx116_5_2 c a b d e f g i j k l)], [Blk.var [iA (nx116_5_3 c a b d e f g i j k l), iA (nx116_5_4 c a b d e f g i j k l), iA (nx116_5_5 c a b d e f g i j k l), iA (nx116_5_6 c a b d e f g i j k l)], Blk.var [iA i, iA j, iA k, iA l]]) else bif xc116_5_0 c a b d e f g i j k l then some (Ex.exit 0, [AV.hp 1 0, AV.hp 0 0], [Blk.var [iA d, iA e, iA f, iA g], Blk.var [iA i, iA j, iA k, iA l]]) else none := by
 refine Eq.trans (b := bif decide (b < (↑a.length : Int)) then bif decide (0 ≤ b) && decide (b < (↑a.length : Int)) then bif decide (rn116_5_4 c a b d e f g i j k l < 0) then bif decide (0 ≤ b) && decide (b < (↑a.length : Int)) then some (Ex.norm, [AV.sl c kI4 a, AV.fn 117 [], AV.hp 1 0, AV.hp 0 0, iA (IntKind.i64.wrap (b + 1))], [Blk.var [iA (rn116_5_0 c a b d e f g i j k l), iA (rn116_5_1 c a b d e f g i j k l), iA (rn116_5_2 c a b d e f g i j k l), iA (rn116_5_3 c a b d e f g i j k l)], Blk.var [iA i, iA j, iA k, iA l]]) else none else some (Ex.norm, [AV.sl c kI4 a, AV.fn 117 [], AV.hp 1 0, AV.hp 0 0, iA (IntKind.i64.wrap (b + 1))], [Blk.var [iA d, iA e, iA f, iA g], Blk.var [iA i, iA j, iA k, iA l]]) else none else some (Ex.exit 0, [AV.hp 1 0, AV.hp 0 0], [Blk.var [iA d, iA e, iA f, iA g], Blk.var [iA i, iA j, iA k, iA l]])) (by kernel_rfl) ?_
 unfold go116_5 nx116_5_2 nx116_5_3 nx116_5_4 nx116_5_5 nx116_5_6 xc116_5_0
 generalize (decide (rn116_5_4 c a b d e f g i j k l < 0)) = c0
 generalize (decide (0 ≤ b) && decide (b < (↑a.length : Int))) = c1
 generalize (decide (b < (↑a.length : Int))) = c2
 cases c2; rfl; cases c1; rfl; cases c0; rfl; rfl
abbrev pl116_5 : Type := Tk × LL × Int × Int × Int × Int
abbrev sl116_5 : Type := Int × Int × Int × Int × Int
noncomputable def vt116_5 (a : pl116_5 × sl116_5) : List AV := [AV.sl a.1.1 kI4 a.1.2.1, AV.fn 117 [], AV.hp 1 0, AV.hp 0 0, iA a.2.1]
noncomputable def vc116_5 (a : pl116_5 × sl116_5) : List Blk := [Blk.var [iA a.2.2.1, iA a.2.2.2.1, iA a.2.2.2.2.1, iA a.2.2.2.2.2], Blk.var [iA a.1.2.2.1, iA a.1.2.2.2.1, iA a.1.2.2.2.2.1, iA a.1.2.2.2.2.2]]
noncomputable def de116_5 (vt : List AV) (vc : List Blk) : Option (pl116_5 × sl116_5) :=
 match vt with
 | [qa0, qa1, qa2, qa3, qa4] => (match vc with
 | [qb0, qb1] => (match qa0 with
 | .sl t0k [.int .i64, .int .i64, .int .i64, .int .i64] t0 => (match qa1 with
 | AV.fn (117) [] => (match qa2 with
 | AV.hp (1) (0) => (match qa3 with
 | AV.hp (0) (0) => (match qa4 with
 | .int .i64 t6 => (match qb0 with
 | .var [.int .i64 b0_0, .int .i64 b0_1, .int .i64 b0_2, .int .i64 b0_3] => (match qb1 with
 | .var [.int .i64 b1_0, .int .i64 b1_1, .int .i64 b1_2, .int .i64 b1_3] => (some ((t0k, t0, b1_0, b1_1, b1_2, b1_3), (t6, b0_0, b0_1, b0_2, b0_3)))
 | _ => none)
 | _ => none)
 | _ => none)
 | _ => none)
 | _ => none)
 | _ => none)
 | _ => none)
 | _ => none)
 | _ => none
theorem de116_5_ok (vt : List AV) (vc : List Blk) (a : pl116_5 × sl116_5) (h : de116_5 vt vc = some a) : vt = vt116_5 a ∧ vc = vc116_5 a := by
 unfold de116_5 at h
 iterate 9 (split at h; rotate_left; · cases h)
 injection h with h; subst h; exact ⟨rfl, rfl⟩
noncomputable def g116_5 (p : pl116_5) (s : sl116_5) : Bool := go116_5 p.1 p.2.1 s.1 s.2.1 s.2.2.1 s.2.2.2.1 s.2.2.2.2 p.2.2.1 p.2.2.2.1 p.2.2.2.2.1 p.2.2.2.2.2
noncomputable def n116_5 (p : pl116_5) (s : sl116_5) : sl116_5 := (nx116_5_2 p.1 p.2.1 s.1 s.2.1 s.2.2.1 s.2.2.2.1 s.2.2.2.2 p.2.2.1 p.2.2.2.1 p.2.2.2.2.1 p.2.2.2.2.2, nx116_5_3 p.1 p.2.1 s.1 s.2.1 s.2.2.1 s.2.2.2.1 s.2.2.2.2 p.2.2.1 p.2.2.2.1 p.2.2.2.2.1 p.2.2.2.2.2, nx116_5_4 p.1 p.2.1 s.1 s.2.1 s.2.2.1 s.2.2.2.1 s.2.2.2.2 p.2.2.1 p.2.2.2.1 p.2.2.2.2.1 p.2.2.2.2.2, nx116_5_5 p.1 p.2.1 s.1 s.2.1 s.2.2.1 s.2.2.2.1 s.2.2.2.2 p.2.2.1 p.2.2.2.1 p.2.2.2.2.1 p.2.2.2.2.2, nx116_5_6 p.1 p.2.1 s.1 s.2.1 s.2.2.1 s.2.2.2.1 s.2.2.2.2 p.2.2.1 p.2.2.2.1 p.2.2.2.2.1 p.2.2.2.2.2)
noncomputable def y116_5 (p : pl116_5) (s : sl116_5) : List (Bool × Out) := []
noncomputable def z116_5 (p : pl116_5) (s : sl116_5) : Bool := xc116_5_0 p.1 p.2.1 s.1 s.2.1 s.2.2.1 s.2.2.2.1 s.2.2.2.2 p.2.2.1 p.2.2.2.1 p.2.2.2.2.1 p.2.2.2.2.2
noncomputable def d116_5 (p : pl116_5) (s : sl116_5) : Out := (Ex.exit 0, [AV.hp 1 0, AV.hp 0 0], [Blk.var [iA s.2.1, iA s.2.2.1, iA s.2.2.2.1, iA s.2.2.2.2], Blk.var [iA p.2.2.1, iA p.2.2.2.1, iA p.2.2.2.2.1, iA p.2.2.2.2.2]])
noncomputable def ls116_5 := lspOf [0, 1, 4, 5, 6] [0, 1] [4, 5] [0, 1] Try.f116.ntmps (0 + tab.nid 116) de116_5 (spI g116_5 n116_5 y116_5 z116_5 d116_5)
theorem lo116_5 (rest : Lsp) : lO k105 (selL 5 ls116_5 rest) 116 0 Try.f116 5 := LoopOK1.iter (i := 5) (by kernel_rfl) [0, 1, 4, 5, 6] [0, 1] [4, 5] [0, 1] vt116_5 vc116_5 de116_5 g116_5 n116_5 y116_5 z116_5 d116_5 (fun _ => rfl) de116_5_ok (fun p s => rd116_5 (selL 5 ls116_5 rest) (p.1) (p.2.1) (s.1) (s.2.1) (s.2.2.1) (s.2.2.2.1) (s.2.2.2.2) (p.2.2.1) (p.2.2.2.1) (p.2.2.2.2.1) (p.2.2.2.2.2)) (fun _ _ => rfl)
noncomputable def lsp116 : Lsp := (selL 5 ls116_5 noLsp)
theorem loops116 : ∀ c, Try.f116.body = some c → lsO k105 lsp116 116 0 Try.f116 c := loops_of [5] (by kernel_rfl) (by kernel_rfl) (fun i hi => by simp only [List.mem_cons, List.not_mem_nil, or_false] at hi; subst hi; exact lo116_5 noLsp)
noncomputable def rev116_0 (tk : Tk) (es : LL) : sl116_5 := finL (g116_5 (tk, es, 0, 0, 0, 0)) (n116_5 (tk, es, 0, 0, 0, 0)) (1, intOf ((es.getD (Int.toNat 0) []).getD 0 AV.junk), intOf ((es.getD (Int.toNat 0) []).getD (0 + 1) AV.junk), intOf ((es.getD (Int.toNat 0) []).getD (0 + 1 + 1) AV.junk), intOf ((es.getD (Int.toNat 0) []).getD (0 + 1 + 1 + 1) AV.junk))
noncomputable def vev116_0 (tk : Tk) (es : LL) : Int := (rev116_0 tk es).snd.fst
noncomputable def vev116_1 (tk : Tk) (es : LL) : Int := (rev116_0 tk es).snd.snd.fst
noncomputable def vev116_2 (tk : Tk) (es : LL) : Int := (rev116_0 tk es).snd.snd.snd.fst
noncomputable def vev116_3 (tk : Tk) (es : LL) : Int := (rev116_0 tk es).snd.snd.snd.snd
noncomputable def vev116_4 (tk : Tk) (es : LL) : Bool := bif decide ((↑es.length : Int) < 1) then false else bif decide ((0 : Int) ≤ 0) && decide (0 < (↑es.length : Int)) then bif (spI g116_5 n116_5 y116_5 z116_5 d116_5 ((tk, es, 0, 0, 0, 0), 1, intOf ((es.getD (Int.toNat 0) []).getD 0 AV.junk), intOf ((es.getD (Int.toNat 0) []).getD (0 + 1) AV.junk), intOf ((es.getD (Int.toNat 0) []).getD (0 + 1 + 1) AV.junk), intOf ((es.getD (Int.toNat 0) []).getD (0 + 1 + 1 + 1) AV.junk))).fst then true else false else false
theorem ev116 (tk : Tk) (es : LL) : eF k105 lsp116 116 Try.f116 [.sl tk kI4 es, .fn 117 []] [] = bif vev116_4 tk es then some (true, AV.agg [iA (vev116_0 tk es), iA (vev116_1 tk es), iA (vev116_2 tk es), iA (vev116_3 tk es)], []) else none := by
 refine Eq.trans (b := bif decide ((↑es.length : Int) < 1) then none else bif decide ((0 : Int) ≤ 0) && decide (0 < (↑es.length : Int)) then bif (spI g116_5 n116_5 y116_5 z116_5 d116_5 ((tk, es, 0, 0, 0, 0), 1, intOf ((es.getD (Int.toNat 0) []).getD 0 AV.junk), intOf ((es.getD (Int.toNat 0) []).getD (0 + 1) AV.junk), intOf ((es.getD (Int.toNat 0) []).getD (0 + 1 + 1) AV.junk), intOf ((es.getD (Int.toNat 0) []).getD (0 + 1 + 1 + 1) AV.junk))).fst then some (true, AV.agg [iA (rev116_0 tk es).snd.fst, iA (rev116_0 tk es).snd.snd.fst, iA (rev116_0 tk es).snd.snd.snd.fst, iA (rev116_0 tk es).snd.snd.snd.snd], []) else none else none) (by kernel_rfl) ?_
 unfold vev116_0 vev116_1 vev116_2 vev116_3 vev116_4
 generalize (spI g116_5 _ _ _ _ _).fst = c0
 generalize (decide ((0 : Int) ≤ 0) && decide (0 < (↑es.length : Int))) = c1
 generalize (decide ((↑es.length : Int) < 1)) = c2
 cases c2; cases c1; rfl; cases c0; rfl; rfl; rfl
noncomputable def sp116 : Sp
 | [.sl tk [.int .i64, .int .i64, .int .i64, .int .i64] es, .fn 117 []], [] => spW (vev116_4 tk es) (some ((true, AV.agg [iA (vev116_0 tk es), iA (vev116_1 tk es), iA (vev116_2 tk es), iA (vev116_3 tk es)], [])))
 | _, _ => none
noncomputable def k116 : Gam := spG 116 sp116 k105
theorem k116_ok : GamOK Try.prog k116 := spG_ok k105_ok fun T C r outs hs => by
   unfold sp116 at hs
   split at hs
   ·exact okE k105_ok Try.func116 loops116 (ev116 _ _) hs
   ·cases hs
noncomputable def vev85_0 (l : Int) (tk : Tk) (es : LL) (id : Int) : Bool := bif vev107a_1 tk es id then true else false
theorem ev85 (l : Int) (tk : Tk) (es : LL) (id : Int) : eF k116 noLsp 85 Try.f85 [.agg [iA l, .sl tk kI4 es], iA id] [] = bif vev85_0 l tk es id then some (true, iA (vev107a_0 tk es id), []) else none := by
 refine Eq.trans (b := bif vev107a_1 tk es id then some (true, iA (vev107a_0 tk es id), []) else none) (by kernel_rfl) ?_
 unfold vev85_0
 generalize (vev107a_1 _ _ _) = c0
 cases c0
 ·skip
  rfl
 ·skip
  rfl
noncomputable def sp85 : Sp
 | [.agg [.int .i64 l, .sl tk [.int .i64, .int .i64, .int .i64, .int .i64] es], .int .i64 id], [] => spW (vev85_0 l tk es id) (some ((true, iA (vev107a_0 tk es id), [])))
 | _, _ => none
noncomputable def k85 : Gam := spG 85 sp85 k116
theorem k85_ok : GamOK Try.prog k85 := spG_ok k116_ok fun T C r outs hs => by
   unfold sp85 at hs
   split at hs
   ·exact okE k116_ok Try.func85 (fun c _ => LoopsOK.none (fun _ _ => rfl) c) (ev85 _ _ _ _) hs
   ·cases hs
noncomputable def rn83_8_0 (f : Tk) (a : LL) (b c d : Int) (g : Tk) (e : LL) : Int := intOf ((a.getD c.toNat []).getD 0 AV.junk)
noncomputable def rn83_8_1 (f : Tk) (a : LL) (b c d : Int) (g : Tk) (e : LL) : sl107a_2 := vev107a_0 g e (rn83_8_0 f a b c d g e)
noncomputable def go83_8 (f : Tk) (a : LL) (b c d : Int) (g : Tk) (e : LL) : Bool := bif decide (c < b) then bif decide (0 ≤ c) && decide (c < (↑a.length : Int)) then bif vev85_0 d g e (rn83_8_0 f a b c d g e) then bif decide (rn83_8_1 f a b c d g e < c) then false else true else false else false else false
noncomputable def nx83_8_3 (f : Tk) (a : LL) (b c d : Int) (g : Tk) (e : LL) : Int := IntKind.i64.wrap (c + 1)
noncomputable def xc83_8_0 (f : Tk) (a : LL) (b c d : Int) (g : Tk) (e : LL) : Bool := bif decide (c < b) then bif decide (0 ≤ c) && decide (c < (↑a.length : Int)) then bif vev85_0 d g e (rn83_8_0 f a b c d g e) then decide (rn83_8_1 f a b c d g e < c) else false else false else false
noncomputable def xc83_8_1 (f : Tk) (a : LL) (b c d : Int) (g : Tk) (e : LL) : Bool := bif decide (c < b) then false else true
theorem rd83_8 (rest : Lsp) (f : Tk) (a : LL) (b c d : Int) (g : Tk) (e : LL) : rV k85 rest 83 0 Try.f83 8 [1, 20, 21, 22] [1] [2] [] [AV.hp 1 0, AV.sl f kI4 a, iA b, iA c] [Blk.var [iA d, AV.sl g kI4 e]] = bif go83_8 f a b c d g e then some (Ex.norm, [AV.hp 1 0, AV.sl f kI4 a, iA b, iA (nx83_8_3 f a b c d g e)], [Blk.var [iA d, AV.sl g kI4 e]]) else bif xc83_8_0 f a b c d g e then some (Ex.ret, [iA 12], []) else bif xc83_8_1 f a b c d g e then some (Ex.exit 1, [AV.junk], []) else none := by
 refine Eq.trans (b := bif decide (c < b) then bif decide (0 ≤ c) && decide (c < (↑a.length : Int)) then bif vev85_0 d g e (rn83_8_0 f a b c d g e) then bif decide (rn83_8_1 f a b c d g e < c) then some (Ex.ret, [iA 12], []) else some (Ex.norm, [AV.hp 1 0, AV.sl f kI4 a, iA b, iA (IntKind.i64.wrap (c + 1))], [Blk.var [iA d, AV.sl g kI4 e]]) else none else none else some (Ex.exit 1, [AV.junk], [])) (by kernel_rfl) ?_
 unfold go83_8 nx83_8_3 xc83_8_0 xc83_8_1
 generalize (decide (0 ≤ c) && decide (c < (↑a.length : Int))) = c0
 generalize (decide (rn83_8_1 f a b c d g e < c)) = c1
 generalize (vev85_0 _ _ _ _) = c2
 generalize (decide (c < b)) = c3
 cases c3; rfl; cases c0; rfl; cases c2; rfl; cases c1; rfl; rfl
abbrev pl83_8 : Type := Tk × LL × Int × Int × Tk × LL
abbrev sl83_8 : Type := Int
noncomputable def vt83_8 (a : pl83_8 × sl83_8) : List AV := [AV.hp 1 0, AV.sl a.1.1 kI4 a.1.2.1, iA a.1.2.2.1, iA a.2]
noncomputable def vc83_8 (a : pl83_8 × sl83_8) : List Blk := [Blk.var [iA a.1.2.2.2.1, AV.sl a.1.2.2.2.2.1 kI4 a.1.2.2.2.2.2]]
noncomputable def de83_8 (vt : List AV) (vc : List Blk) : Option (pl83_8 × sl83_8) :=
 match vt with
 | [qa0, qa1, qa2, qa3] => (match vc with
 | [qb0] => (match qa0 with
 | AV.hp (1) (0) => (match qa1 with
 | .sl t20k [.int .i64, .int .i64, .int .i64, .int .i64] t20 => (match qa2 with
 | .int .i64 t21 => (match qa3 with
 | .int .i64 t22 => (match qb0 with
 | .var [.int .i64 b1_0, .sl b1_1k [.int .i64, .int .i64, .int .i64, .int .i64] b1_1] => (some ((t20k, t20, t21, b1_0, b1_1k, b1_1), t22))
 | _ => none)
 | _ => none)
 | _ => none)
 | _ => none)
 | _ => none)
 | _ => none)
 | _ => none
theorem de83_8_ok (vt : List AV) (vc : List Blk) (a : pl83_8 × sl83_8) (h : de83_8 vt vc = some a) : vt = vt83_8 a ∧ vc = vc83_8 a := by
 unfold de83_8 at h
 iterate 7 (split at h; rotate_left; · cases h)
 injection h with h; subst h; exact ⟨rfl, rfl⟩
noncomputable def g83_8 (p : pl83_8) (s : sl83_8) : Bool := go83_8 p.1 p.2.1 p.2.2.1 s p.2.2.2.1 p.2.2.2.2.1 p.2.2.2.2.2
noncomputable def n83_8 (p : pl83_8) (s : sl83_8) : sl83_8 := nx83_8_3 p.1 p.2.1 p.2.2.1 s p.2.2.2.1 p.2.2.2.2.1 p.2.2.2.2.2
noncomputable def y83_8 (p : pl83_8) (s : sl83_8) : List (Bool × Out) := [(xc83_8_0 p.1 p.2.1 p.2.2.1 s p.2.2.2.1 p.2.2.2.2.1 p.2.2.2.2.2, (Ex.ret, [iA 12], []))]
noncomputable def z83_8 (p : pl83_8) (s : sl83_8) : Bool := xc83_8_1 p.1 p.2.1 p.2.2.1 s p.2.2.2.1 p.2.2.2.2.1 p.2.2.2.2.2
noncomputable def d83_8 (p : pl83_8) (s : sl83_8) : Out := (Ex.exit 1, [AV.junk], [])
noncomputable def ls83_8 := lspOf [1, 20, 21, 22] [1] [2] [] Try.f83.ntmps (0 + tab.nid 83) de83_8 (spI g83_8 n83_8 y83_8 z83_8 d83_8)
theorem lo83_8 (rest : Lsp) : lO k85 (selL 8 ls83_8 rest) 83 0 Try.f83 8 := LoopOK1.iter (i := 8) (by kernel_rfl) [1, 20, 21, 22] [1] [2] [] vt83_8 vc83_8 de83_8 g83_8 n83_8 y83_8 z83_8 d83_8 (fun _ => rfl) de83_8_ok (fun p s => rd83_8 (selL 8 ls83_8 rest) (p.1) (p.2.1) (p.2.2.1) s (p.2.2.2.1) (p.2.2.2.2.1) (p.2.2.2.2.2)) (fun _ _ => rfl)
noncomputable def lsp83 : Lsp := (selL 8 ls83_8 noLsp)
theorem loops83 : ∀ c, Try.f83.body = some c → lsO k85 lsp83 83 0 Try.f83 c := loops_of [8] (by kernel_rfl) (by kernel_rfl) (fun i hi => by simp only [List.mem_cons, List.not_mem_nil, or_false] at hi; subst hi; exact lo83_8 noLsp)
noncomputable def rev83_0 (l : Int) (tk : Tk) (es : LL) : sl83_8 := finL (g83_8 (tk, es, (↑es.length : Int), l, tk, es)) (n83_8 (tk, es, (↑es.length : Int), l, tk, es)) 0
noncomputable def vev83_0 (l : Int) (tk : Tk) (es : LL) : Int := bif !vev80_0 l 1 1000 then 8 else bif decide ((↑es.length : Int) > 16) then 7 else bif vev105_0 tk es then 8 else bif xc83_8_0 tk es (↑es.length : Int) (rev83_0 l tk es) l tk es then 12 else 0
noncomputable def vev83_1 (l : Int) (tk : Tk) (es : LL) : Bool := bif !vev80_0 l 1 1000 then true else bif decide ((↑es.length : Int) > 16) then true else bif vev105_1 tk es then bif vev105_0 tk es then true else bif (spI g83_8 n83_8 y83_8 z83_8 d83_8 ((tk, es, (↑es.length : Int), l, tk, es), 0)).fst then true else false else false
theorem ev83 (l : Int) (tk : Tk) (es : LL) : eF k85 lsp83 83 Try.f83 [.agg [iA l, .sl tk kI4 es]] [] = bif vev83_1 l tk es then some (true, iA (vev83_0 l tk es), []) else none := by
 refine Eq.trans (b := bif !vev80_0 l 1 1000 then some (true, iA 8, []) else bif decide ((↑es.length : Int) > 16) then some (true, iA 7, []) else bif vev105_1 tk es then bif vev105_0 tk es then some (true, iA 8, []) else bif (spI g83_8 n83_8 y83_8 z83_8 d83_8 ((tk, es, (↑es.length : Int), l, tk, es), 0)).fst then bif xc83_8_0 tk es (↑es.length : Int) (rev83_0 l tk es) l tk es then some (true, iA 12, []) else some (true, iA 0, []) else none else none) (by kernel_rfl) ?_
 unfold vev83_0 vev83_1
 generalize (spI g83_8 _ _ _ _ _).fst = c0
 generalize (decide ((↑es.length : Int) > 16)) = c1
 generalize (xc83_8_0 _ _ _ _ _ _ _) = c2
 generalize (!vev80_0 _ _ _) = c3
 generalize (vev105_0 _ _) = c4
 generalize (vev105_1 _ _) = c5
 cases c3; cases c1; cases c5; rfl; cases c4; cases c0; rfl; cases c2; rfl; rfl; rfl; rfl; rfl
noncomputable def sp83 : Sp
 | [.agg [.int .i64 l, .sl tk [.int .i64, .int .i64, .int .i64, .int .i64] es]], [] => spW (vev83_1 l tk es) (some ((true, iA (vev83_0 l tk es), [])))
 | _, _ => none
noncomputable def k83 : Gam := spG 83 sp83 k85
theorem k83_ok : GamOK Try.prog k83 := spG_ok k85_ok fun T C r outs hs => by
   unfold sp83 at hs
   split at hs
   ·exact okE k85_ok Try.func83 loops83 (ev83 _ _ _) hs
   ·cases hs
noncomputable def go74_5 (a : Int) (e : Tk) (b : LL) (c d : Int) : Bool := bif decide (d < c) then decide (0 ≤ d) && decide (d < (↑b.length : Int)) else false
noncomputable def nx74_5_0 (a : Int) (e : Tk) (b : LL) (c d : Int) : Int := IntKind.i64.wrap (a + intOf ((b.getD d.toNat []).getD (0 + 1 + 1) AV.junk))
noncomputable def nx74_5_4 (a : Int) (e : Tk) (b : LL) (c d : Int) : Int := IntKind.i64.wrap (d + 1)
noncomputable def xc74_5_0 (a : Int) (e : Tk) (b : LL) (c d : Int) : Bool := bif decide (d < c) then false else true
theorem rd74_5 (rest : Lsp) (a : Int) (e : Tk) (b : LL) (c d : Int) : rV k83 rest 74 0 Try.f74 5 [3, 10, 11, 12] [] [3] [] [iA a, AV.sl e kI4 b, iA c, iA d] [] = bif go74_5 a e b c d then some (Ex.norm, [iA (nx74_5_0 a e b c d), AV.sl e kI4 b, iA c, iA (nx74_5_4 a e b c d)], []) else bif xc74_5_0 a e b c d then some (Ex.exit 0, [iA a], []) else none := by
 refine Eq.trans (b := bif decide (d < c) then bif decide (0 ≤ d) && decide (d < (↑b.length : Int)) then some (Ex.norm, [iA (IntKind.i64.wrap (a + intOf ((b.getD d.toNat []).getD (0 + 1 + 1) AV.junk))), AV.sl e kI4 b, iA c, iA (IntKind.i64.wrap (d + 1))], []) else none else some (Ex.exit 0, [iA a], [])) (by kernel_rfl) ?_
 unfold go74_5 nx74_5_0 nx74_5_4 xc74_5_0
 generalize (decide (0 ≤ d) && decide (d < (↑b.length : Int))) = c0
 generalize (decide (d < c)) = c1
 cases c1; rfl; cases c0; rfl; rfl
abbrev pl74_5 : Type := Tk × LL × Int
abbrev sl74_5 : Type := Int × Int
noncomputable def vt74_5 (a : pl74_5 × sl74_5) : List AV := [iA a.2.1, AV.sl a.1.1 kI4 a.1.2.1, iA a.1.2.2, iA a.2.2]
noncomputable def vc74_5 (a : pl74_5 × sl74_5) : List Blk := []
noncomputable def de74_5 (vt : List AV) (vc : List Blk) : Option (pl74_5 × sl74_5) :=
 match vt with
 | [qa0, qa1, qa2, qa3] => (match vc with
 | [] => (match qa0 with
 | .int .i64 t3 => (match qa1 with
 | .sl t10k [.int .i64, .int .i64, .int .i64, .int .i64] t10 => (match qa2 with
 | .int .i64 t11 => (match qa3 with
 | .int .i64 t12 => (some ((t10k, t10, t11), (t3, t12)))
 | _ => none)
 | _ => none)
 | _ => none)
 | _ => none)
 | _ => none)
 | _ => none
theorem de74_5_ok (vt : List AV) (vc : List Blk) (a : pl74_5 × sl74_5) (h : de74_5 vt vc = some a) : vt = vt74_5 a ∧ vc = vc74_5 a := by
 unfold de74_5 at h
 iterate 6 (split at h; rotate_left; · cases h)
 injection h with h; subst h; exact ⟨rfl, rfl⟩
noncomputable def g74_5 (p : pl74_5) (s : sl74_5) : Bool := go74_5 s.1 p.1 p.2.1 p.2.2 s.2
noncomputable def n74_5 (p : pl74_5) (s : sl74_5) : sl74_5 := (nx74_5_0 s.1 p.1 p.2.1 p.2.2 s.2, nx74_5_4 s.1 p.1 p.2.1 p.2.2 s.2)
noncomputable def y74_5 (p : pl74_5) (s : sl74_5) : List (Bool × Out) := []
noncomputable def z74_5 (p : pl74_5) (s : sl74_5) : Bool := xc74_5_0 s.1 p.1 p.2.1 p.2.2 s.2
noncomputable def d74_5 (p : pl74_5) (s : sl74_5) : Out := (Ex.exit 0, [iA s.1], [])
noncomputable def ls74_5 := lspOf [3, 10, 11, 12] [] [3] [] Try.f74.ntmps (0 + tab.nid 74) de74_5 (spI g74_5 n74_5 y74_5 z74_5 d74_5)
theorem lo74_5 (rest : Lsp) : lO k83 (selL 5 ls74_5 rest) 74 0 Try.f74 5 := LoopOK1.iter (i := 5) (by kernel_rfl) [3, 10, 11, 12] [] [3] [] vt74_5 vc74_5 de74_5 g74_5 n74_5 y74_5 z74_5 d74_5 (fun _ => rfl) de74_5_ok (fun p s => rd74_5 (selL 5 ls74_5 rest) (s.1) (p.1) (p.2.1) (p.2.2) (s.2)) (fun _ _ => rfl)
noncomputable def lsp74 : Lsp := (selL 5 ls74_5 noLsp)
theorem loops74 : ∀ c, Try.f74.body = some c → lsO k83 lsp74 74 0 Try.f74 c := loops_of [5] (by kernel_rfl) (by kernel_rfl) (fun i hi => by simp only [List.mem_cons, List.not_mem_nil, or_false] at hi; subst hi; exact lo74_5 noLsp)
noncomputable def rev74_0 (l : Int) (tk : Tk) (es : LL) : sl74_5 := finL (g74_5 (tk, es, (↑es.length : Int))) (n74_5 (tk, es, (↑es.length : Int))) (0, 0)
noncomputable def vev74_0 (l : Int) (tk : Tk) (es : LL) : Int := bif vev83_0 l tk es != 0 then 0 else (rev74_0 l tk es).fst
noncomputable def vev74_1 (l : Int) (tk : Tk) (es : LL) : Bool := bif vev83_1 l tk es then bif vev83_0 l tk es != 0 then true else bif (spI g74_5 n74_5 y74_5 z74_5 d74_5 ((tk, es, (↑es.length : Int)), 0, 0)).fst then true else false else false
theorem ev74 (l : Int) (tk : Tk) (es : LL) : eF k83 lsp74 74 Try.f74 [.agg [iA l, .sl tk kI4 es]] [] = bif vev74_1 l tk es then some (true, iA (vev74_0 l tk es), []) else none := by
 refine Eq.trans (b := bif vev83_1 l tk es then bif vev83_0 l tk es != 0 then some (true, iA 0, []) else bif (spI g74_5 n74_5 y74_5 z74_5 d74_5 ((tk, es, (↑es.length : Int)), 0, 0)).fst then some (true, iA (rev74_0 l tk es).fst, []) else none else none) (by kernel_rfl) ?_
 unfold vev74_0 vev74_1
 generalize (spI g74_5 _ _ _ _ _).fst = c0
 generalize (vev83_0 l tk es != 0) = c1
 generalize (vev83_1 _ _ _) = c2
 cases c2; rfl; cases c1; cases c0; rfl; rfl; rfl
noncomputable def sp74 : Sp
 | [.agg [.int .i64 l, .sl tk [.int .i64, .int .i64, .int .i64, .int .i64] es]], [] => spW (vev74_1 l tk es) (some ((true, iA (vev74_0 l tk es), [])))
 | _, _ => none
noncomputable def k74 : Gam := spG 74 sp74 k83
theorem k74_ok : GamOK Try.prog k74 := spG_ok k83_ok fun T C r outs hs => by
   unfold sp74 at hs
   split at hs
   ·exact okE k83_ok Try.func74 loops74 (ev74 _ _ _) hs
   ·cases hs
noncomputable def vev100_0 (l : Int) (tk : Tk) (es : LL) : Int := bif bif (↑es.length : Int) == 0 then true else bif vev83_1 l tk es then vev83_0 l tk es != 0 else false then (-1) else bif decide (vev107b_0 tk es l tk es ≥ 0) then vev107b_0 tk es l tk es else vev107a_0 tk es (vev116_0 tk es)
noncomputable def vev100_1 (l : Int) (tk : Tk) (es : LL) : Bool := bif bif (↑es.length : Int) == 0 then true else vev83_1 l tk es then bif bif (↑es.length : Int) == 0 then true else bif vev83_1 l tk es then vev83_0 l tk es != 0 else false then true else bif vev107b_1 tk es l tk es then bif decide (vev107b_0 tk es l tk es ≥ 0) then true else bif vev116_4 tk es then bif vev85_0 l tk es (vev116_0 tk es) then true else false else false else false else false
theorem ev100 (l : Int) (tk : Tk) (es : LL) : eF k74 noLsp 100 Try.f100 [.agg [iA l, .sl tk kI4 es]] [] = bif vev100_1 l tk es then some (true, iA (vev100_0 l tk es), []) else none := by
 refine Eq.trans (b := bif bif (↑es.length : Int) == 0 then true else bif vev83_1 l tk es then true else false then bif bif (↑es.length : Int) == 0 then true else bif vev83_1 l tk es then bif false then true else vev83_0 l tk es != 0 else false then some (true, iA (-1), []) else bif vev107b_1 tk es l tk es then bif decide (vev107b_0 tk es l tk es ≥ 0) then some (true, iA (vev107b_0 tk es l tk es), []) else bif vev116_4 tk es then bif vev85_0 l tk es (vev116_0 tk es) then some (true, iA (vev107a_0 tk es (vev116_0 tk es)), []) else none else none else none else none) (by kernel_rfl) ?_
 unfold vev100_0 vev100_1
 generalize (decide (vev107b_0 tk es l tk es ≥ 0)) = c0
 generalize ((↑es.length : Int) == 0) = c1
 generalize (vev83_0 l tk es != 0) = c2
 generalize (vev85_0 _ _ _ _) = c3
 generalize (vev107b_1 _ _ _ _ _) = c4
 generalize (vev83_1 _ _ _) = c5
 generalize (vev116_4 _ _) = c6
 cases c1; cases c5; rfl; cases c2; cases c4; rfl; cases c0; cases c6; rfl; cases c3; rfl; rfl; rfl; rfl; rfl
noncomputable def sp100 : Sp
 | [.agg [.int .i64 l, .sl tk [.int .i64, .int .i64, .int .i64, .int .i64] es]], [] => spW (vev100_1 l tk es) (some ((true, iA (vev100_0 l tk es), [])))
 | _, _ => none
noncomputable def k100 : Gam := spG 100 sp100 k74
theorem k100_ok : GamOK Try.prog k100 := spG_ok k74_ok fun T C r outs hs => by
   unfold sp100 at hs
   split at hs
   ·exact okE k74_ok Try.func100 (fun c _ => LoopsOK.none (fun _ _ => rfl) c) (ev100 _ _ _) hs
   ·cases hs
end Go.Proofs.Gv
namespace Go.Proofs.Gv
open Go.Proofs
noncomputable def vev82_0 (l : Int) (tk : Tk) (es : LL) : Bool := bif (es.length * 32).ble 140737488355328 then true else false
theorem ev82 (l : Int) (tk : Tk) (es : LL) : evFun (cfg Try.prog tab 100000 (gk k100 30) noLsp 82 ([] : List Blk).length Try.f82.ntmps) Try.f82 [.agg [iA l, .sl tk kI4 es]] [] = bif vev82_0 l tk es then some (AV.agg [iA l, AV.rf 0 kI4], [Blk.row kI4 es]) else none := by
 refine Eq.trans (b := bif (es.length * 32).ble 140737488355328 then some (AV.agg [iA l, AV.rf 0 kI4], [Blk.row kI4 es]) else none) (by kernel_rfl) ?_
 unfold vev82_0
 generalize ((es.length * 32).ble 140737488355328) = c0
 cases c0
 ·skip
  rfl
 ·skip
  rfl
noncomputable def sp82 : Sp
 | [.agg [.int .i64 l, .sl tk [.int .i64, .int .i64, .int .i64, .int .i64] es]], [] => spW (vev82_0 l tk es) (fin Try.prog (tab.frz 82) ([] : List Blk).length Try.f82.resultTypes.toList (some ((AV.agg [iA l, AV.rf 0 kI4], [Blk.row kI4 es]))))
 | _, _ => none
noncomputable def k82 : Gam := spG 82 sp82 k100
theorem k82_ok : GamOK Try.prog k82 := spG_ok k100_ok fun T C r outs hs => by
   unfold sp82 at hs
   split at hs
   ·rename_i l tk es
    obtain ⟨hb, hs⟩ := spW_inv hs
    have he := ev82 l tk es
    rw [hb, cond_true] at he
    obtain ⟨h1, h2⟩ := fn_ok mixed plain (gk_ok k100_ok 30) Try.func82 (fun c _ => LoopsOK.none (fun _ _ => rfl) c) he
    exact ⟨h1, h2.fin hs⟩
   ·cases hs
noncomputable def vev44_0 (l : Int) : Int := bif !vev80_0 l 1 1000 then 0 else l
noncomputable def vev44_1 (l : Int) : Int := bif !vev80_0 l 1 1000 then 8 else 0
theorem ev44 (l : Int) : eF k82 noLsp 44 Try.f44 [iA l] [] = some (true, AV.tup [AV.agg [iA (vev44_0 l), AV.sl Tk.imm kI4 []], iA (vev44_1 l)], []) := by
 refine Eq.trans (b := bif !vev80_0 l 1 1000 then some (true, AV.tup [AV.agg [iA 0, AV.sl Tk.imm kI4 []], iA 8], []) else some (true, AV.tup [AV.agg [iA l, AV.sl Tk.imm kI4 []], iA 0], [])) (by kernel_rfl) ?_
 unfold vev44_0 vev44_1
 generalize (!vev80_0 _ _ _) = c0
 cases c0
 ·skip
  rfl
 ·skip
  rfl
noncomputable def sp44 : Sp
 | [.int .i64 l], [] => spW (true) (some ((true, AV.tup [AV.agg [iA (vev44_0 l), AV.sl Tk.imm kI4 []], iA (vev44_1 l)], [])))
 | _, _ => none
noncomputable def k44 : Gam := spG 44 sp44 k82
theorem k44_ok : GamOK Try.prog k44 := spG_ok k82_ok fun T C r outs hs => by
   unfold sp44 at hs
   split at hs
   ·rename_i l
    obtain ⟨hb, rfl, rfl⟩ := spT_inv hs
    have he := ev44 l
    obtain ⟨r0, o0, h0, he⟩ := evFin_inv he
    obtain ⟨h1, h2⟩ := fn_ok mixed plain (gk_ok k82_ok 30) Try.func44 (fun c _ => LoopsOK.none (fun _ _ => rfl) c) h0
    exact ⟨h1, h2.fin he⟩
   ·cases hs
noncomputable def rev47_0 (l : Int) (es : LL) (id rank cost : Int) : LL := [[iA id, iA rank, iA cost, iA 0]]
noncomputable def vev47_0 (l : Int) (es : LL) (id rank cost : Int) : LL := bif vev83_0 l Tk.imm es != 0 then es else bif !vev84_0 id rank cost 0 then es else bif decide (vev107a_0 Tk.imm es id ≥ 0) then es else bif decide ((↑es.length : Int) ≥ 16) then es else es ++ rev47_0 l es id rank cost
noncomputable def vev47_1 (l : Int) (es : LL) (id rank cost : Int) : Int := bif vev83_0 l Tk.imm es != 0 then vev83_0 l Tk.imm es else bif !vev84_0 id rank cost 0 then 8 else bif decide (vev107a_0 Tk.imm es id ≥ 0) then 12 else bif decide ((↑es.length : Int) ≥ 16) then 7 else 0
noncomputable def vev47_2 (l : Int) (es : LL) (id rank cost : Int) : Bool := bif vev82_0 l Tk.imm es then bif vev83_1 l Tk.imm es then bif vev83_0 l Tk.imm es != 0 then true else bif !vev84_0 id rank cost 0 then true else bif vev85_0 l Tk.imm es id then bif decide (vev107a_0 Tk.imm es id ≥ 0) then true else bif decide ((↑es.length : Int) ≥ 16) then true else bif bif decide ((es.length + (rev47_0 l es id rank cost).length) * 32 ≤ 140737488355328) then decide (es.length + (rev47_0 l es id rank cost).length ≤ 9223372036854775807) else false then true else false else false else false else false
theorem ev47 (l : Int) (es : LL) (id rank cost : Int) : eF k44 noLsp 47 Try.f47 [.agg [iA l, .sl .imm kI4 es], iA id, iA rank, iA cost] [] = bif vev47_2 l es id rank cost then some (true, AV.tup [AV.agg [iA l, AV.sl Tk.imm kI4 (vev47_0 l es id rank cost)], iA (vev47_1 l es id rank cost)], []) else none := by
 refine Eq.trans (b := bif vev82_0 l Tk.imm es then bif vev83_1 l Tk.imm es then bif vev83_0 l Tk.imm es != 0 then some (true, AV.tup [AV.agg [iA l, AV.sl Tk.imm kI4 es], iA (vev83_0 l Tk.imm es)], []) else bif !vev84_0 id rank cost 0 then some (true, AV.tup [AV.agg [iA l, AV.sl Tk.imm kI4 es], iA 8], []) else bif vev85_0 l Tk.imm es id then bif decide (vev107a_0 Tk.imm es id ≥ 0) then some (true, AV.tup [AV.agg [iA l, AV.sl Tk.imm kI4 es], iA 12], []) else bif decide ((↑es.length : Int) ≥ 16) then some (true, AV.tup [AV.agg [iA l, AV.sl Tk.imm kI4 es], iA 7], []) else bif bif decide ((es.length + (rev47_0 l es id rank cost).length) * 32 ≤ 140737488355328) then decide (es.length + (rev47_0 l es id rank cost).length ≤ 9223372036854775807) else false then some (true, AV.tup [AV.agg [iA l, AV.sl Tk.imm kI4 (es ++ rev47_0 l es id rank cost)], iA 0], []) else none else none else none else none) (by kernel_rfl) ?_
 unfold vev47_0 vev47_1 vev47_2
 generalize (decide ((es.length + (rev47_0 l es id rank cost).length) * 32 ≤ 140737488355328)) = c0
 generalize (decide (es.length + (rev47_0 l es id rank cost).length ≤ 9223372036854775807)) = c1
 generalize (decide ((↑es.length : Int) ≥ 16)) = c2
 generalize (decide (vev107a_0 Tk.imm es id ≥ 0)) = c3
 generalize (vev83_0 l Tk.imm es != 0) = c4
 generalize (!vev84_0 _ _ _ _) = c5
 generalize (vev85_0 _ _ _ _) = c6
 generalize (vev82_0 _ _ _) = c7
 generalize (vev83_1 _ _ _) = c8
 cases c7; rfl; cases c8; rfl; cases c4; cases c5; cases c6; rfl; cases c3; cases c2; cases c0; rfl; cases c1; rfl; rfl; rfl; rfl; rfl; rfl
noncomputable def sp47 : Sp
 | [.agg [.int .i64 l, .sl .imm [.int .i64, .int .i64, .int .i64, .int .i64] es], .int .i64 id, .int .i64 rank, .int .i64 cost], [] => spW (vev47_2 l es id rank cost) (some ((true, AV.tup [AV.agg [iA l, AV.sl Tk.imm kI4 (vev47_0 l es id rank cost)], iA (vev47_1 l es id rank cost)], [])))
 | _, _ => none
noncomputable def k47 : Gam := spG 47 sp47 k44
theorem k47_ok : GamOK Try.prog k47 := spG_ok k44_ok fun T C r outs hs => by
   unfold sp47 at hs
   split at hs
   ·exact okE k44_ok Try.func47 (fun c _ => LoopsOK.none (fun _ _ => rfl) c) (ev47 _ _ _ _ _) hs
   ·cases hs
noncomputable def rev97_0 (es : LL) (i j : Int) : LL := List.take (es.length - j.toNat) (List.drop j.toNat es)
noncomputable def rev97_1 (es : LL) (i j : Int) : Int := (↑(i.toNat + (rev97_0 es i j).length) : Int)
noncomputable def rev97_2 (es : LL) (i j : Int) : LL := List.take (0 + i.toNat) es ++ rev97_0 es i j ++ List.drop (0 + i.toNat + (rev97_0 es i j).length) es
theorem ev97 (es : LL) (i j : Int) : eF k47 noLsp 97 Try.f97 [.rf 0 kI4, iA i, iA j] [.row kI4 es] = bif bnd i j (↑es.length : Int) && bnd j (↑es.length : Int) (↑es.length : Int) then bif i == j then some (true, AV.rf 0 kI4, [Blk.row kI4 es]) else bif bnd 0 i (↑es.length : Int) then bif bnd j (↑es.length : Int) (↑es.length : Int) then bif bif decide (0 + i.toNat + (rev97_0 es i j).length ≤ es.length) then bif decide (i.toNat + (rev97_0 es i j).length ≤ es.length) then bif decide ((i.toNat + (rev97_0 es i j).length) * 32 ≤ 140737488355328) then decide (i.toNat + (rev97_0 es i j).length ≤ 9223372036854775807) else false else false else false then bif bnd (rev97_1 es i j) (↑es.length : Int) (↑es.length : Int) && decide (0 + (↑es.length : Int).toNat ≤ (rev97_2 es i j).length) then some (true, AV.rs 0 kI4 0 (i.toNat + (rev97_0 es i j).length) es.length, [Blk.row kI4 (List.take ((rev97_1 es i j).toNat + 0) (rev97_2 es i j) ++ List.replicate ((↑es.length : Int).toNat - (rev97_1 es i j).toNat) (List.map v2a0 #[Value.int IntKind.i64 0, Value.int IntKind.i64 0, Value.int IntKind.i64 0, Value.int IntKind.i64 0].toList) ++ List.drop ((rev97_1 es i j).toNat + 0 + ((↑es.length : Int).toNat - (rev97_1 es i j).toNat)) (rev97_2 es i j))]) else none else none else none else none else none := by kernel_rfl
noncomputable def sp97 : Sp
 | [.rf 0 [.int .i64, .int .i64, .int .i64, .int .i64], .int .i64 i, .int .i64 j], [.row [.int .i64, .int .i64, .int .i64, .int .i64] es] => some (decide (0 ≤ i) && (decide (i < j) && (decide (j ≤ (es.length : Int)) && decide (es.length * 32 ≤ 140737488355328))), .rs 0 kI4 0 (i.toNat + (es.length - j.toNat)) es.length, [.row kI4 (es.take i.toNat ++ es.drop j.toNat ++ List.replicate (j.toNat - i.toNat) [iA 0, iA 0, iA 0, iA 0])])
 | _, _ => none
noncomputable def k97 : Gam := spG 97 sp97 k47
theorem k97_ok : GamOK Try.prog k97 := spG_ok k47_ok fun T C r outs hs => by
   unfold sp97 at hs
   split at hs
   ·rename_i i j es
    injection hs with hs
    injection hs with hb hs
    injection hs with e1 e2
    subst e1 e2
    simp only [Bool.and_eq_true, decide_eq_true_eq] at hb
    obtain ⟨h0, hij, hj, hm⟩ := hb
    have he := ev97 es i j
    have a0 : rev97_0 es i j = es.drop j.toNat := by
     unfold rev97_0
     rw [List.take_of_length_le (by rw [List.length_drop]; omega)]
    have l0 : (es.drop j.toNat).length = es.length - j.toNat := List.length_drop ..
    have a1 : rev97_1 es i j = ((i.toNat + (es.length - j.toNat) : Nat) : Int) := by unfold rev97_1; rw [a0, l0]
    have a2 : rev97_2 es i j = (es.take i.toNat ++ es.drop j.toNat) ++ es.drop (i.toNat + (es.length - j.toNat)) := by unfold rev97_2; rw [a0, l0, Nat.zero_add]
    have l2 : (es.take i.toNat ++ es.drop j.toNat).length = i.toNat + (es.length - j.toNat) := by rw [List.length_append, List.length_take, l0]; omega
    have l3 : (rev97_2 es i j).length = es.length := by rw [a2, List.length_append, l2, List.length_drop]; omega
    rw [show (bnd i j (es.length : Int) && bnd j (es.length : Int) (es.length : Int)) = true from by simp [bnd]; omega, cond_true,
     show (i == j) = false from by simp; omega, cond_false,
     show bnd 0 i (es.length : Int) = true from by simp [bnd]; omega, cond_true,
     show bnd j (es.length : Int) (es.length : Int) = true from by simp [bnd]; omega, cond_true,
     a0, l0, a1, l3, decide_eq_true (show 0 + i.toNat + (es.length - j.toNat) ≤ es.length by omega), cond_true, decide_eq_true (show i.toNat + (es.length - j.toNat) ≤ es.length by omega), cond_true,
     decide_eq_true (show (i.toNat + (es.length - j.toNat)) * 32 ≤ 140737488355328 by omega), cond_true, decide_eq_true (show i.toNat + (es.length - j.toNat) ≤ 9223372036854775807 by omega), cond_true,
     show (bnd ((i.toNat + (es.length - j.toNat) : Nat) : Int) (es.length : Int) (es.length : Int) && decide (0 + (es.length : Int).toNat ≤ es.length)) = true from by simp [bnd]; omega, cond_true,
     Int.toNat_natCast, Int.toNat_natCast, Nat.add_zero, a2, List.take_left' l2, show es.length - (i.toNat + (es.length - j.toNat)) = j.toNat - i.toNat by omega,
     List.drop_of_length_le (l := es.take i.toNat ++ es.drop j.toNat ++ es.drop (i.toNat + (es.length - j.toNat))) (by rw [List.length_append, l2, List.length_drop]; omega), List.append_nil] at he
    obtain ⟨r0, o0, h0, he⟩ := evFin_inv he
    obtain ⟨h1, h2⟩ := fn_ok mixed plain (gk_ok k47_ok 30) Try.func97 (fun c _ => LoopsOK.none (fun _ _ => rfl) c) h0
    exact ⟨h1, h2.fin he⟩
   ·cases hs
noncomputable def rn67_5_0 (b c d e f g h i j k : Int) (a : LL) : Int := IntKind.i64.wrap (intOf ((a.getD e.toNat []).getD (0 + 1 + 1 + 1) AV.junk) + 1)
noncomputable def go67_5 (b c d e f g h i j k : Int) (a : LL) : Bool := bif decide (e < d) then decide (0 ≤ e) && decide (e < (↑a.length : Int)) else false
noncomputable def nx67_5_3 (b c d e f g h i j k : Int) (a : LL) : Int := IntKind.i64.wrap (e + 1)
noncomputable def nx67_5_10 (b c d e f g h i j k : Int) (a : LL) : LL := a.set e.toNat [iA (intOf ((a.getD e.toNat []).getD 0 AV.junk)), iA (intOf ((a.getD e.toNat []).getD (0 + 1) AV.junk)), iA (intOf ((a.getD e.toNat []).getD (0 + 1 + 1) AV.junk)), iA (if if false = true then rn67_5_0 b c d e f g h i j k a < 2000 else 2000 < rn67_5_0 b c d e f g h i j k a then 2000 else rn67_5_0 b c d e f g h i j k a)]
noncomputable def xc67_5_0 (b c d e f g h i j k : Int) (a : LL) : Bool := bif decide (e < d) then false else true
theorem rd67_5 (rest : Lsp) (b c d e f g i j k l : Int) (a : LL) : rV k97 rest 67 0 Try.f67 5 [1, 4, 5, 7, 8, 24, 25] [1, 2, 4, 5, 6] [1, 4, 5, 7, 8] [1, 2, 4, 5, 6] [iA b, AV.hp 4 0, AV.hp 5 0, AV.hp 2 0, iA c, iA d, iA e] [Blk.dead, Blk.var [iA f, AV.rf 6 kI4], Blk.var [iA g, AV.nil], Blk.var [iA i, iA j, iA k, iA l], Blk.row kI4 a] = bif go67_5 b c d e f g i j k l a then some (Ex.norm, [iA b, AV.hp 4 0, AV.hp 5 0, AV.hp 2 0, iA c, iA d, iA (nx67_5_3 b c d e f g i j k l a)], [Blk.dead, Blk.var [iA f, AV.rf 6 kI4], Blk.var [iA g, AV.nil], Blk.var [iA i, iA j, iA k, iA l], Blk.row kI4 (nx67_5_10 b c d e f g i j k l a)]) else bif xc67_5_0 b c d e f g i j k l a then some (Ex.exit 0, [iA b, AV.hp 4 0, AV.hp 5 0, AV.hp 2 0, iA c], [Blk.dead, Blk.var [iA f, AV.rf 6 kI4], Blk.var [iA g, AV.nil], Blk.var [iA i, iA j, iA k, iA l], Blk.row kI4 a]) else none := by
 refine Eq.trans (b := bif decide (e < d) then bif decide (0 ≤ e) && decide (e < (↑a.length : Int)) then bif decide (0 ≤ e) && decide (e < (↑a.length : Int)) then some (Ex.norm, [iA b, AV.hp 4 0, AV.hp 5 0, AV.hp 2 0, iA c, iA d, iA (IntKind.i64.wrap (e + 1))], [Blk.dead, Blk.var [iA f, AV.rf 6 kI4], Blk.var [iA g, AV.nil], Blk.var [iA i, iA j, iA k, iA l], Blk.row kI4 (a.set e.toNat [iA (intOf ((a.getD e.toNat []).getD 0 AV.junk)), iA (intOf ((a.getD e.toNat []).getD (0 + 1) AV.junk)), iA (intOf ((a.getD e.toNat []).getD (0 + 1 + 1) AV.junk)), iA (if if false = true then rn67_5_0 b c d e f g i j k l a < 2000 else 2000 < rn67_5_0 b c d e f g i j k l a then 2000 else rn67_5_0 b c d e f g i j k l a)])]) else none else none else some (Ex.exit 0, [iA b, AV.hp 4 0, AV.hp 5 0, AV.hp 2 0, iA c], [Blk.dead, Blk.var [iA f, AV.rf 6 kI4], Blk.var [iA g, AV.nil], Blk.var [iA i, iA j, iA k, iA l], Blk.row kI4 a])) (by kernel_rfl) ?_
 unfold go67_5 nx67_5_3 nx67_5_10 xc67_5_0
 generalize (decide (0 ≤ e) && decide (e < (↑a.length : Int))) = c0
 generalize (decide (e < d)) = c1
 cases c1; rfl; cases c0; rfl; rfl
abbrev pl67_5 : Type := Int × Int × Int × Int × Int × Int × Int × Int × Int
abbrev sl67_5 : Type := Int × LL
noncomputable def vt67_5 (a : pl67_5 × sl67_5) : List AV := [iA a.1.1, AV.hp 4 0, AV.hp 5 0, AV.hp 2 0, iA a.1.2.1, iA a.1.2.2.1, iA a.2.1]
noncomputable def vc67_5 (a : pl67_5 × sl67_5) : List Blk := [Blk.dead, Blk.var [iA a.1.2.2.2.1, AV.rf 6 kI4], Blk.var [iA a.1.2.2.2.2.1, AV.nil], Blk.var [iA a.1.2.2.2.2.2.1, iA a.1.2.2.2.2.2.2.1, iA a.1.2.2.2.2.2.2.2.1, iA a.1.2.2.2.2.2.2.2.2], Blk.row kI4 a.2.2]
noncomputable def de67_5 (vt : List AV) (vc : List Blk) : Option (pl67_5 × sl67_5) :=
 match vt with
 | [qa0, qa1, qa2, qa3, qa4, qa5, qa6] => (match vc with
 | [qb0, qb1, qb2, qb3, qb4] => (match qa0 with
 | .int .i64 t1 => (match qa1 with
 | AV.hp (4) (0) => (match qa2 with
 | AV.hp (5) (0) => (match qa3 with
 | AV.hp (2) (0) => (match qa4 with
 | .int .i64 t8 => (match qa5 with
 | .int .i64 t24 => (match qa6 with
 | .int .i64 t25 => (match qb0 with
 | Blk.dead => (match qb1 with
 | .var [.int .i64 b2_0, AV.rf (6) [.int .i64, .int .i64, .int .i64, .int .i64]] => (match qb2 with
 | .var [.int .i64 b4_0, AV.nil] => (match qb3 with
 | .var [.int .i64 b5_0, .int .i64 b5_1, .int .i64 b5_2, .int .i64 b5_3] => (match qb4 with
 | .row [.int .i64, .int .i64, .int .i64, .int .i64] b6 => (some ((t1, t8, t24, b2_0, b4_0, b5_0, b5_1, b5_2, b5_3), (t25, b6)))
 | _ => none)
 | _ => none)
 | _ => none)
 | _ => none)
 | _ => none)
 | _ => none)
 | _ => none)
 | _ => none)
 | _ => none)
 | _ => none)
 | _ => none)
 | _ => none)
 | _ => none)
 | _ => none
theorem de67_5_ok (vt : List AV) (vc : List Blk) (a : pl67_5 × sl67_5) (h : de67_5 vt vc = some a) : vt = vt67_5 a ∧ vc = vc67_5 a := by
 unfold de67_5 at h
 iterate 14 (split at h; rotate_left; · cases h)
 injection h with h; subst h; exact ⟨rfl, rfl⟩
noncomputable def g67_5 (p : pl67_5) (s : sl67_5) : Bool := go67_5 p.1 p.2.1 p.2.2.1 s.1 p.2.2.2.1 p.2.2.2.2.1 p.2.2.2.2.2.1 p.2.2.2.2.2.2.1 p.2.2.2.2.2.2.2.1 p.2.2.2.2.2.2.2.2 s.2
noncomputable def n67_5 (p : pl67_5) (s : sl67_5) : sl67_5 := (nx67_5_3 p.1 p.2.1 p.2.2.1 s.1 p.2.2.2.1 p.2.2.2.2.1 p.2.2.2.2.2.1 p.2.2.2.2.2.2.1 p.2.2.2.2.2.2.2.1 p.2.2.2.2.2.2.2.2 s.2, nx67_5_10 p.1 p.2.1 p.2.2.1 s.1 p.2.2.2.1 p.2.2.2.2.1 p.2.2.2.2.2.1 p.2.2.2.2.2.2.1 p.2.2.2.2.2.2.2.1 p.2.2.2.2.2.2.2.2 s.2)
noncomputable def y67_5 (p : pl67_5) (s : sl67_5) : List (Bool × Out) := []
noncomputable def z67_5 (p : pl67_5) (s : sl67_5) : Bool := xc67_5_0 p.1 p.2.1 p.2.2.1 s.1 p.2.2.2.1 p.2.2.2.2.1 p.2.2.2.2.2.1 p.2.2.2.2.2.2.1 p.2.2.2.2.2.2.2.1 p.2.2.2.2.2.2.2.2 s.2
noncomputable def d67_5 (p : pl67_5) (s : sl67_5) : Out := (Ex.exit 0, [iA p.1, AV.hp 4 0, AV.hp 5 0, AV.hp 2 0, iA p.2.1], [Blk.dead, Blk.var [iA p.2.2.2.1, AV.rf 6 kI4], Blk.var [iA p.2.2.2.2.1, AV.nil], Blk.var [iA p.2.2.2.2.2.1, iA p.2.2.2.2.2.2.1, iA p.2.2.2.2.2.2.2.1, iA p.2.2.2.2.2.2.2.2], Blk.row kI4 s.2])
noncomputable def ls67_5 := lspOf [1, 4, 5, 7, 8, 24, 25] [1, 2, 4, 5, 6] [1, 4, 5, 7, 8] [1, 2, 4, 5, 6] Try.f67.ntmps (0 + tab.nid 67) de67_5 (spI g67_5 n67_5 y67_5 z67_5 d67_5)
theorem lo67_5 (rest : Lsp) : lO k97 (selL 5 ls67_5 rest) 67 0 Try.f67 5 := LoopOK1.iter (i := 5) (by kernel_rfl) [1, 4, 5, 7, 8, 24, 25] [1, 2, 4, 5, 6] [1, 4, 5, 7, 8] [1, 2, 4, 5, 6] vt67_5 vc67_5 de67_5 g67_5 n67_5 y67_5 z67_5 d67_5 (fun _ => rfl) de67_5_ok (fun p s => rd67_5 (selL 5 ls67_5 rest) (p.1) (p.2.1) (p.2.2.1) (s.1) (p.2.2.2.1) (p.2.2.2.2.1) (p.2.2.2.2.2.1) (p.2.2.2.2.2.2.1) (p.2.2.2.2.2.2.2.1) (p.2.2.2.2.2.2.2.2) (s.2)) (fun _ _ => rfl)
noncomputable def lsp67 : Lsp := (selL 5 ls67_5 noLsp)
theorem loops67 : ∀ c, Try.f67.body = some c → lsO k97 lsp67 67 0 Try.f67 c := loops_of [5] (by kernel_rfl) (by kernel_rfl) (fun i hi => by simp only [List.mem_cons, List.not_mem_nil, or_false] at hi; subst hi; exact lo67_5 noLsp)
noncomputable def rev67_0 (l : Int) (es : LL) (quantum : Int) : sl67_5 := finL (g67_5 (quantum, vev100_0 l Tk.imm es, vev100_0 l Tk.imm es, l, 0, 0, 0, 0, 0)) (n67_5 (quantum, vev100_0 l Tk.imm es, vev100_0 l Tk.imm es, l, 0, 0, 0, 0, 0)) (0, es)
noncomputable def rev67_1 (l : Int) (es : LL) (quantum : Int) : LL := (rev67_0 l es quantum).snd
noncomputable def rev67_2 (l : Int) (es : LL) (quantum : Int) : Int := (↑(rev67_1 l es quantum).length : Int)
noncomputable def rev67_3 (l : Int) (es : LL) (quantum : Int) : Int := intOf (((rev67_1 l es quantum).getD (vev100_0 l Tk.imm es).toNat []).getD (0 + 1 + 1) AV.junk)
noncomputable def rev67_4 (l : Int) (es : LL) (quantum : Int) : Int := if if false = true then rev67_3 l es quantum < quantum else quantum < rev67_3 l es quantum then quantum else rev67_3 l es quantum
noncomputable def rev67_5 (l : Int) (es : LL) (quantum : Int) : LL := (rev67_1 l es quantum).set (vev100_0 l Tk.imm es).toNat [iA (intOf (((rev67_1 l es quantum).getD (vev100_0 l Tk.imm es).toNat []).getD 0 AV.junk)), iA (intOf (((rev67_1 l es quantum).getD (vev100_0 l Tk.imm es).toNat []).getD (0 + 1) AV.junk)), iA (IntKind.i64.wrap (rev67_3 l es quantum - rev67_4 l es quantum)), iA (intOf (((rev67_1 l es quantum).getD (vev100_0 l Tk.imm es).toNat []).getD (0 + 1 + 1 + 1) AV.junk))]
noncomputable def rev67_6 (l : Int) (es : LL) (quantum : Int) : Int := (↑(rev67_5 l es quantum).length : Int)
noncomputable def rev67_7 (l : Int) (es : LL) (quantum : Int) : Int := intOf (((rev67_5 l es quantum).getD (vev100_0 l Tk.imm es).toNat []).getD (0 + 1 + 1) AV.junk)
noncomputable def rev67_8 (l : Int) (es : LL) (quantum : Int) : Int := IntKind.i64.wrap (vev100_0 l Tk.imm es + 1)
noncomputable def vev67_0 (l : Int) (es : LL) (quantum : Int) : LL := bif bif decide (vev100_0 l Tk.imm es < 0) then true else decide (quantum < 1) then es else bif decide (rev67_7 l es quantum = 0) then List.take ((vev100_0 l Tk.imm es).toNat + ((rev67_5 l es quantum).length - (rev67_8 l es quantum).toNat)) (List.drop 0 (List.take (vev100_0 l Tk.imm es).toNat (rev67_5 l es quantum) ++ List.drop (rev67_8 l es quantum).toNat (rev67_5 l es quantum) ++ List.replicate ((rev67_8 l es quantum).toNat - (vev100_0 l Tk.imm es).toNat) [iA 0, iA 0, iA 0, iA 0])) else rev67_5 l es quantum
noncomputable def vev67_1 (l : Int) (es : LL) (quantum : Int) : Int := bif bif decide (vev100_0 l Tk.imm es < 0) then true else decide (quantum < 1) then 0 else intOf (((rev67_5 l es quantum).getD (vev100_0 l Tk.imm es).toNat []).getD 0 AV.junk)
noncomputable def vev67_2 (l : Int) (es : LL) (quantum : Int) : Int := bif bif decide (vev100_0 l Tk.imm es < 0) then true else decide (quantum < 1) then 0 else intOf (((rev67_5 l es quantum).getD (vev100_0 l Tk.imm es).toNat []).getD (0 + 1) AV.junk)
noncomputable def vev67_3 (l : Int) (es : LL) (quantum : Int) : Int := bif bif decide (vev100_0 l Tk.imm es < 0) then true else decide (quantum < 1) then 0 else rev67_7 l es quantum
noncomputable def vev67_4 (l : Int) (es : LL) (quantum : Int) : Int := bif bif decide (vev100_0 l Tk.imm es < 0) then true else decide (quantum < 1) then 0 else intOf (((rev67_5 l es quantum).getD (vev100_0 l Tk.imm es).toNat []).getD (0 + 1 + 1 + 1) AV.junk)
noncomputable def vev67_5 (l : Int) (es : LL) (quantum : Int) : Int := bif bif decide (vev100_0 l Tk.imm es < 0) then true else decide (quantum < 1) then 0 else rev67_4 l es quantum
noncomputable def vev67_6 (l : Int) (es : LL) (quantum : Int) : Bool := bif vev82_0 l Tk.imm es then bif vev100_1 l Tk.imm es then bif bif decide (vev100_0 l Tk.imm es < 0) then true else decide (quantum < 1) then true else bif (spI g67_5 n67_5 y67_5 z67_5 d67_5 ((quantum, vev100_0 l Tk.imm es, vev100_0 l Tk.imm es, l, 0, 0, 0, 0, 0), 0, es)).fst then bif decide (0 ≤ vev100_0 l Tk.imm es) && decide (vev100_0 l Tk.imm es < rev67_2 l es quantum) then bif bif decide (0 ≤ vev100_0 l Tk.imm es) then decide (vev100_0 l Tk.imm es < rev67_6 l es quantum) else false then bif decide (rev67_7 l es quantum = 0) then bif bif decide (0 ≤ vev100_0 l Tk.imm es) then bif decide (vev100_0 l Tk.imm es < rev67_8 l es quantum) then bif decide (rev67_8 l es quantum ≤ rev67_6 l es quantum) then decide ((rev67_5 l es quantum).length * 32 ≤ 140737488355328) else false else false else false then true else false else true else false else false else false else false else false
theorem ev67 (l : Int) (es : LL) (quantum : Int) : eF k97 lsp67 67 Try.f67 [.agg [iA l, .sl .imm kI4 es], iA quantum] [] = bif vev67_6 l es quantum then some (true, AV.tup [AV.agg [iA l, AV.sl Tk.imm kI4 (vev67_0 l es quantum)], AV.agg [iA (vev67_1 l es quantum), iA (vev67_2 l es quantum), iA (vev67_3 l es quantum), iA (vev67_4 l es quantum)], iA (vev67_5 l es quantum)], []) else none := by
 refine Eq.trans (b := bif vev82_0 l Tk.imm es then bif vev100_1 l Tk.imm es then bif bif decide (vev100_0 l Tk.imm es < 0) then true else true then bif bif decide (vev100_0 l Tk.imm es < 0) then true else bif false then true else decide (quantum < 1) then some (true, AV.tup [AV.agg [iA l, AV.sl Tk.imm kI4 es], AV.agg [iA 0, iA 0, iA 0, iA 0], iA 0], []) else bif (spI g67_5 n67_5 y67_5 z67_5 d67_5 ((quantum, vev100_0 l Tk.imm es, vev100_0 l Tk.imm es, l, 0, 0, 0, 0, 0), 0, es)).fst then bif decide (0 ≤ vev100_0 l Tk.imm es) && decide (vev100_0 l Tk.imm es < rev67_2 l es quantum) then bif decide (0 ≤ vev100_0 l Tk.imm es) && decide (vev100_0 l Tk.imm es < rev67_2 l es quantum) then bif decide (0 ≤ vev100_0 l Tk.imm es) && decide (vev100_0 l Tk.imm es < rev67_2 l es quantum) then bif bif decide (0 ≤ vev100_0 l Tk.imm es) then decide (vev100_0 l Tk.imm es < rev67_6 l es quantum) else false then bif decide (rev67_7 l es quantum = 0) then bif bif decide (0 ≤ vev100_0 l Tk.imm es) then bif decide (vev100_0 l Tk.imm es < rev67_8 l es quantum) then bif decide (rev67_8 l es quantum ≤ rev67_6 l es quantum) then decide ((rev67_5 l es quantum).length * 32 ≤ 140737488355328) else false else false else false then some (true, AV.tup [AV.agg [iA l, AV.sl Tk.imm kI4 (List.take ((vev100_0 l Tk.imm es).toNat + ((rev67_5 l es quantum).length - (rev67_8 l es quantum).toNat)) (List.drop 0 (List.take (vev100_0 l Tk.imm es).toNat (rev67_5 l es quantum) ++ List.drop (rev67_8 l es quantum).toNat (rev67_5 l es quantum) ++ List.replicate ((rev67_8 l es quantum).toNat - (vev100_0 l Tk.imm es).toNat) [iA 0, iA 0, iA 0, iA 0])))], AV.agg [iA (intOf (((rev67_5 l es quantum).getD (vev100_0 l Tk.imm es).toNat []).getD 0 AV.junk)), iA (intOf (((rev67_5 l es quantum).getD (vev100_0 l Tk.imm es).toNat []).getD (0 + 1) AV.junk)), iA (rev67_7 l es quantum), iA (intOf (((rev67_5 l es quantum).getD (vev100_0 l Tk.imm es).toNat []).getD (0 + 1 + 1 + 1) AV.junk))], iA (rev67_4 l es quantum)], []) else none else some (true, AV.tup [AV.agg [iA l, AV.sl Tk.imm kI4 (rev67_5 l es quantum)], AV.agg [iA (intOf (((rev67_5 l es quantum).getD (vev100_0 l Tk.imm es).toNat []).getD 0 AV.junk)), iA (intOf (((rev67_5 l es quantum).getD (vev100_0 l Tk.imm es).toNat []).getD (0 + 1) AV.junk)), iA (rev67_7 l es quantum), iA (intOf (((rev67_5 l es quantum).getD (vev100_0 l Tk.imm es).toNat []).getD (0 + 1 + 1 + 1) AV.junk))], iA (rev67_4 l es quantum)], []) else none else none else none else none else none else none else none else none) (by kernel_rfl) ?_
 unfold vev67_0 vev67_1 vev67_2 vev67_3 vev67_4 vev67_5 vev67_6
 generalize (spI g67_5 _ _ _ _ _).fst = c0
 generalize (decide ((rev67_5 l es quantum).length * 32 ≤ 140737488355328)) = c1
 generalize (decide (0 ≤ vev100_0 l Tk.imm es) && decide (vev100_0 l Tk.imm es < rev67_2 l es quantum)) = c2
 generalize (decide (0 ≤ vev100_0 l Tk.imm es)) = c3
 generalize (decide (vev100_0 l Tk.imm es < 0)) = c4
 generalize (decide (rev67_7 l es quantum = 0)) = c5
 generalize (decide (vev100_0 l Tk.imm es < rev67_6 l es quantum)) = c6
 generalize (decide (rev67_8 l es quantum ≤ rev67_6 l es quantum)) = c7
 generalize (decide (vev100_0 l Tk.imm es < rev67_8 l es quantum)) = c8
 generalize (decide (quantum < 1)) = c9
 generalize (vev100_1 _ _ _) = c10
 generalize (vev82_0 _ _ _) = c11
 cases c11; rfl; cases c10; rfl; cases c4; cases c9; cases c0; rfl; cases c2; rfl; cases c3; rfl; cases c6; rfl; cases c5; rfl; cases c8; rfl
 cases c7; rfl; cases c1; rfl; rfl; rfl; rfl
noncomputable def sp67 : Sp
 | [.agg [.int .i64 l, .sl .imm [.int .i64, .int .i64, .int .i64, .int .i64] es], .int .i64 quantum], [] => spW (vev67_6 l es quantum) (some ((true, AV.tup [AV.agg [iA l, AV.sl Tk.imm kI4 (vev67_0 l es quantum)], AV.agg [iA (vev67_1 l es quantum), iA (vev67_2 l es quantum), iA (vev67_3 l es quantum), iA (vev67_4 l es quantum)], iA (vev67_5 l es quantum)], [])))
 | _, _ => none
noncomputable def k67 : Gam := spG 67 sp67 k97
theorem k67_ok : GamOK Try.prog k67 := spG_ok k97_ok fun T C r outs hs => by
   unfold sp67 at hs
   split at hs
   ·exact okE k97_ok Try.func67 loops67 (ev67 _ _ _) hs
   ·cases hs
end Go.Proofs.Gv
