import Derived.Test.YthnbpgiohimkoaaPi33
import Derived.Test.YthnbpgiohimkoaaPi34
import Derived.Test.YthnbpgiohimkoaaPi27
import Derived.KernelRfl
import Derived.Test.YthnbpgiohimkoaaPi35
import Derived.Test.YthnbpgiohimkoaaPi30
import Derived.Test.YthnbpgiohimkoaaPi31
set_option linter.unusedVariables false
namespace Go.Proofs.Gv
open Go.Proofs
theorem mixed : Try.prog.follows .mixedOrders = true := by kernel_rfl
theorem plain : plainNames Try.prog = true := by kernel_rfl
noncomputable abbrev j87 : Func := unj Try.f87
noncomputable abbrev j114 : Func := unj Try.f114
def k0 : Gam := fun _ _ _ => none
theorem k0_ok : GamOK Try.prog k0 := GamOK.none _
noncomputable abbrev gk (k : Gam) : Nat → Gam := gamJ Try.prog tab 100000 k
theorem gk_ok {k : Gam} (h : GamOK Try.prog k) (d : Nat) : GamOK Try.prog (gk k d) := gamJ_ok mixed plain h d
def spW (ok : Bool) (x : Option (Bool × AV × List Blk)) : Option (Bool × AV × List Blk) :=
 match x with
 | some (_, r, o) => some (ok, r, o)
 | none => none
theorem spT_inv {ok b' : Bool} {r r' : AV} {o o' : List Blk} (h : spW ok (some (b', r', o')) = some (true, r, o)) : ok = true ∧ r' = r ∧ o' = o := by
 unfold spW at h
 injection h with h
 injection h with h1 h
 injection h with h2 h3
 exact ⟨h1, h2, h3⟩
theorem fin_true {P : Program} {frz : Bool} {m : Nat} {ts : List TypeId} {x : Option (AV × List Blk)} {b : Bool} {r : AV} {o : List Blk} (h : fin P frz m ts x = some (b, r, o)) : b = true := by
 unfold fin at h
 split at h
 ·split at h <;> (injection h with h; injection h with h; exact h.symm)
 ·cases h
theorem spW_inv {P : Program} {frz : Bool} {m : Nat} {ts : List TypeId} {x : Option (AV × List Blk)} {ok : Bool} {r : AV} {o : List Blk} (h : spW ok (fin P frz m ts x) = some (true, r, o)) : ok = true ∧ fin P frz m ts x = some (true, r, o) := by
 unfold spW at h
 split at h
 ·rename_i b r' o' he
  injection h with h
  injection h with h1 h
  injection h with h2 h3
  subst h1 h2 h3
  have := fin_true he
  subst this
  exact ⟨rfl, he⟩
 ·cases h
theorem ev75n : evFun (cfg Try.prog tab 100000 (gk k0 30) noLsp 75 ([] : List Blk).length Try.f75.ntmps) Try.f75 [.nil] [] = some (AV.nil, []) := by kernel_rfl
noncomputable def sp75n : Sp
 | [.nil], [] => spW (true) (fin Try.prog (tab.frz 75) ([] : List Blk).length Try.f75.resultTypes.toList (some ((AV.nil, []))))
 | _, _ => none
noncomputable def k75n : Gam := spG 75 sp75n k0
theorem k75n_ok : GamOK Try.prog k75n := spG_ok k0_ok fun T C r outs hs => by
   unfold sp75n at hs
   split at hs
   ·obtain ⟨hb, hs⟩ := spW_inv hs
    have he := ev75n
    obtain ⟨h1, h2⟩ := fn_ok mixed plain (gk_ok k0_ok 30) Try.func75 (fun c _ => LoopsOK.none (fun _ _ => rfl) c) he
    exact ⟨h1, h2.fin hs⟩
   ·cases hs
noncomputable def vev75s_0 (es : LL) : LL := [] ++ es
noncomputable def vev75s_1 (es : LL) : Bool := bif bif decide ((0 + es.length) * 32 ≤ 140737488355328) then decide (0 + es.length ≤ 9223372036854775807) else false then true else false
theorem ev75s (es : LL) : evFun (cfg Try.prog tab 100000 (gk k75n 30) noLsp 75 ([] : List Blk).length Try.f75.ntmps) Try.f75 [.sl .nn kI4 es] [] = bif vev75s_1 es then some (AV.rf 0 kI4, [Blk.row kI4 (vev75s_0 es)]) else none := by
 refine Eq.trans (b := bif bif decide ((0 + es.length) * 32 ≤ 140737488355328) then decide (0 + es.length ≤ 9223372036854775807) else false then some (AV.rf 0 kI4, [Blk.row kI4 ([] ++ es)]) else none) (by kernel_rfl) ?_
 unfold vev75s_0 vev75s_1
 generalize (decide ((0 + es.length) * 32 ≤ 140737488355328)) = c0
 generalize (decide (0 + es.length ≤ 9223372036854775807)) = c1
 cases c0; rfl; cases c1; rfl; rfl
noncomputable def sp75s : Sp
 | [.sl .nn [.int .i64, .int .i64, .int .i64, .int .i64] es], [] => spW (vev75s_1 es) (fin Try.prog (tab.frz 75) ([] : List Blk).length Try.f75.resultTypes.toList (some ((AV.rf 0 kI4, [Blk.row kI4 (vev75s_0 es)]))))
 | _, _ => none
noncomputable def k75s : Gam := spG 75 sp75s k75n
theorem k75s_ok : GamOK Try.prog k75s := spG_ok k75n_ok fun T C r outs hs => by
   unfold sp75s at hs
   split at hs
   ·rename_i es
    obtain ⟨hb, hs⟩ := spW_inv hs
    have he := ev75s es
    rw [hb, cond_true] at he
    obtain ⟨h1, h2⟩ := fn_ok mixed plain (gk_ok k75n_ok 30) Try.func75 (fun c _ => LoopsOK.none (fun _ _ => rfl) c) he
    exact ⟨h1, h2.fin hs⟩
   ·cases hs
noncomputable def sp75c : Sp
 | [.sl _ [.int .i64, .int .i64, .int .i64, .int .i64] es], [] => some (Nat.ble (es.length * 32) 140737488355328, .rf 0 kI4, [.row kI4 es])
 | _, _ => none
noncomputable def k75c : Gam := spG 75 sp75c k75s
theorem k75c_ok : GamOK Try.prog k75c := spG_ok k75s_ok fun T C r outs hs => by
   unfold sp75c at hs
   split at hs
   ·rename_i t es
    injection hs with hs
    injection hs with hb hs
    injection hs with e1 e2
    subst e1 e2
    have hb := Nat.le_of_ble_eq_true hb
    have h1 := fn_ok mixed plain (gk_ok k0_ok 30) Try.func75 (fun c _ => LoopsOK.none (fun _ _ => rfl) c) ev75n
    have he := ev75s es
    have hok : vev75s_1 es = true := by
     unfold vev75s_1
     rw [decide_eq_true (show (0 + es.length) * 32 ≤ 140737488355328 by omega), decide_eq_true (show 0 + es.length ≤ 9223372036854775807 by omega)]
     rfl
    rw [hok, cond_true] at he
    have h2 := fn_ok mixed plain (gk_ok k75n_ok 30) Try.func75 (fun c _ => LoopsOK.none (fun _ _ => rfl) c) he
    exact ⟨h1.1, clone_ok (by decide) h1.2 (fun h => h) h2.2 t⟩
   ·cases hs
theorem ev94n : evFun (cfg Try.prog tab 100000 (gk k75c 30) noLsp 94 ([] : List Blk).length Try.f94.ntmps) Try.f94 [.nil] [] = some (AV.nil, []) := by kernel_rfl
noncomputable def sp94n : Sp
 | [.nil], [] => spW (true) (fin Try.prog (tab.frz 94) ([] : List Blk).length Try.f94.resultTypes.toList (some ((AV.nil, []))))
 | _, _ => none
noncomputable def k94n : Gam := spG 94 sp94n k75c
theorem k94n_ok : GamOK Try.prog k94n := spG_ok k75c_ok fun T C r outs hs => by
   unfold sp94n at hs
   split at hs
   ·obtain ⟨hb, hs⟩ := spW_inv hs
    have he := ev94n
    obtain ⟨h1, h2⟩ := fn_ok mixed plain (gk_ok k75c_ok 30) Try.func94 (fun c _ => LoopsOK.none (fun _ _ => rfl) c) he
    exact ⟨h1, h2.fin hs⟩
   ·cases hs
noncomputable def vev94s_0 (es : LL) : LL := [] ++ es
noncomputable def vev94s_1 (es : LL) : Bool := bif bif decide ((0 + es.length) * 8 ≤ 140737488355328) then decide (0 + es.length ≤ 9223372036854775807) else false then true else false
theorem ev94s (es : LL) : evFun (cfg Try.prog tab 100000 (gk k94n 30) noLsp 94 ([] : List Blk).length Try.f94.ntmps) Try.f94 [.sl .nn kI1 es] [] = bif vev94s_1 es then some (AV.rf 0 kI1, [Blk.row kI1 (vev94s_0 es)]) else none := by
 refine Eq.trans (b := bif bif decide ((0 + es.length) * 8 ≤ 140737488355328) then decide (0 + es.length ≤ 9223372036854775807) else false then some (AV.rf 0 kI1, [Blk.row kI1 ([] ++ es)]) else none) (by kernel_rfl) ?_
 unfold vev94s_0 vev94s_1
 generalize (decide ((0 + es.length) * 8 ≤ 140737488355328)) = c0
 generalize (decide (0 + es.length ≤ 9223372036854775807)) = c1
 cases c0; rfl; cases c1; rfl; rfl
noncomputable def sp94s : Sp
 | [.sl .nn [.int .i64] es], [] => spW (vev94s_1 es) (fin Try.prog (tab.frz 94) ([] : List Blk).length Try.f94.resultTypes.toList (some ((AV.rf 0 kI1, [Blk.row kI1 (vev94s_0 es)]))))
 | _, _ => none
noncomputable def k94s : Gam := spG 94 sp94s k94n
theorem k94s_ok : GamOK Try.prog k94s := spG_ok k94n_ok fun T C r outs hs => by
   unfold sp94s at hs
   split at hs
   ·rename_i es
    obtain ⟨hb, hs⟩ := spW_inv hs
    have he := ev94s es
    rw [hb, cond_true] at he
    obtain ⟨h1, h2⟩ := fn_ok mixed plain (gk_ok k94n_ok 30) Try.func94 (fun c _ => LoopsOK.none (fun _ _ => rfl) c) he
    exact ⟨h1, h2.fin hs⟩
   ·cases hs
noncomputable def sp94c : Sp
 | [.sl _ [.int .i64] es], [] => some (Nat.ble (es.length * 8) 140737488355328, .rf 0 kI1, [.row kI1 es])
 | _, _ => none
noncomputable def k94c : Gam := spG 94 sp94c k94s
theorem k94c_ok : GamOK Try.prog k94c := spG_ok k94s_ok fun T C r outs hs => by
   unfold sp94c at hs
   split at hs
   ·rename_i t es
    injection hs with hs
    injection hs with hb hs
    injection hs with e1 e2
    subst e1 e2
    have hb := Nat.le_of_ble_eq_true hb
    have h1 := fn_ok mixed plain (gk_ok k75c_ok 30) Try.func94 (fun c _ => LoopsOK.none (fun _ _ => rfl) c) ev94n
    have he := ev94s es
    have hok : vev94s_1 es = true := by
     unfold vev94s_1
     rw [decide_eq_true (show (0 + es.length) * 8 ≤ 140737488355328 by omega), decide_eq_true (show 0 + es.length ≤ 9223372036854775807 by omega)]
     rfl
    rw [hok, cond_true] at he
    have h2 := fn_ok mixed plain (gk_ok k94n_ok 30) Try.func94 (fun c _ => LoopsOK.none (fun _ _ => rfl) c) he
    exact ⟨h1.1, clone_ok (by decide) h1.2 (fun h => h) h2.2 t⟩
   ·cases hs
theorem ev111n : evFun (cfg Try.prog tab 100000 (gk k94c 30) noLsp 111 ([] : List Blk).length Try.f111.ntmps) Try.f111 [.nil] [] = some (AV.nil, []) := by kernel_rfl
noncomputable def sp111n : Sp
 | [.nil], [] => spW (true) (fin Try.prog (tab.frz 111) ([] : List Blk).length Try.f111.resultTypes.toList (some ((AV.nil, []))))
 | _, _ => none
noncomputable def k111n : Gam := spG 111 sp111n k94c
theorem k111n_ok : GamOK Try.prog k111n := spG_ok k94c_ok fun T C r outs hs => by
   unfold sp111n at hs
   split at hs
   ·obtain ⟨hb, hs⟩ := spW_inv hs
    have he := ev111n
    obtain ⟨h1, h2⟩ := fn_ok mixed plain (gk_ok k94c_ok 30) Try.func111 (fun c _ => LoopsOK.none (fun _ _ => rfl) c) he
    exact ⟨h1, h2.fin hs⟩
   ·cases hs
noncomputable def vev111s_0 (es : LL) : LL := [] ++ es
noncomputable def vev111s_1 (es : LL) : Bool := bif bif decide ((0 + es.length) * 16 ≤ 140737488355328) then decide (0 + es.length ≤ 9223372036854775807) else false then true else false
theorem ev111s (es : LL) : evFun (cfg Try.prog tab 100000 (gk k111n 30) noLsp 111 ([] : List Blk).length Try.f111.ntmps) Try.f111 [.sl .nn kI2 es] [] = bif vev111s_1 es then some (AV.rf 0 kI2, [Blk.row kI2 (vev111s_0 es)]) else none := by
 refine Eq.trans (b := bif bif decide ((0 + es.length) * 16 ≤ 140737488355328) then decide (0 + es.length ≤ 9223372036854775807) else false then some (AV.rf 0 kI2, [Blk.row kI2 ([] ++ es)]) else none) (by kernel_rfl) ?_
 unfold vev111s_0 vev111s_1
 generalize (decide ((0 + es.length) * 16 ≤ 140737488355328)) = c0
 generalize (decide (0 + es.length ≤ 9223372036854775807)) = c1
 cases c0; rfl; cases c1; rfl; rfl
noncomputable def sp111s : Sp
 | [.sl .nn [.int .i64, .int .i64] es], [] => spW (vev111s_1 es) (fin Try.prog (tab.frz 111) ([] : List Blk).length Try.f111.resultTypes.toList (some ((AV.rf 0 kI2, [Blk.row kI2 (vev111s_0 es)]))))
 | _, _ => none
noncomputable def k111s : Gam := spG 111 sp111s k111n
theorem k111s_ok : GamOK Try.prog k111s := spG_ok k111n_ok fun T C r outs hs => by
   unfold sp111s at hs
   split at hs
   ·rename_i es
    obtain ⟨hb, hs⟩ := spW_inv hs
    have he := ev111s es
    rw [hb, cond_true] at he
    obtain ⟨h1, h2⟩ := fn_ok mixed plain (gk_ok k111n_ok 30) Try.func111 (fun c _ => LoopsOK.none (fun _ _ => rfl) c) he
    exact ⟨h1, h2.fin hs⟩
   ·cases hs
noncomputable def sp111c : Sp
 | [.sl _ [.int .i64, .int .i64] es], [] => some (Nat.ble (es.length * 16) 140737488355328, .rf 0 kI2, [.row kI2 es])
 | _, _ => none
noncomputable def k111c : Gam := spG 111 sp111c k111s
theorem k111c_ok : GamOK Try.prog k111c := spG_ok k111s_ok fun T C r outs hs => by
   unfold sp111c at hs
   split at hs
   ·rename_i t es
    injection hs with hs
    injection hs with hb hs
    injection hs with e1 e2
    subst e1 e2
    have hb := Nat.le_of_ble_eq_true hb
    have h1 := fn_ok mixed plain (gk_ok k94c_ok 30) Try.func111 (fun c _ => LoopsOK.none (fun _ _ => rfl) c) ev111n
    have he := ev111s es
    have hok : vev111s_1 es = true := by
     unfold vev111s_1
     rw [decide_eq_true (show (0 + es.length) * 16 ≤ 140737488355328 by omega), decide_eq_true (show 0 + es.length ≤ 9223372036854775807 by omega)]
     rfl
    rw [hok, cond_true] at he
    have h2 := fn_ok mixed plain (gk_ok k111n_ok 30) Try.func111 (fun c _ => LoopsOK.none (fun _ _ => rfl) c) he
    exact ⟨h1.1, clone_ok (by decide) h1.2 (fun h => h) h2.2 t⟩
   ·cases hs
theorem ev118n : evFun (cfg Try.prog tab 100000 (gk k111c 30) noLsp 118 ([] : List Blk).length Try.f118.ntmps) Try.f118 [.nil] [] = some (AV.nil, []) := by kernel_rfl
noncomputable def sp118n : Sp
 | [.nil], [] => spW (true) (fin Try.prog (tab.frz 118) ([] : List Blk).length Try.f118.resultTypes.toList (some ((AV.nil, []))))
 | _, _ => none
noncomputable def k118n : Gam := spG 118 sp118n k111c
theorem k118n_ok : GamOK Try.prog k118n := spG_ok k111c_ok fun T C r outs hs => by
   unfold sp118n at hs
   split at hs
   ·obtain ⟨hb, hs⟩ := spW_inv hs
    have he := ev118n
    obtain ⟨h1, h2⟩ := fn_ok mixed plain (gk_ok k111c_ok 30) Try.func118 (fun c _ => LoopsOK.none (fun _ _ => rfl) c) he
    exact ⟨h1, h2.fin hs⟩
   ·cases hs
noncomputable def vev118s_0 (es : LL) : LL := [] ++ es
noncomputable def vev118s_1 (es : LL) : Bool := bif bif decide ((0 + es.length) * 16 ≤ 140737488355328) then decide (0 + es.length ≤ 9223372036854775807) else false then true else false
theorem ev118s (es : LL) : evFun (cfg Try.prog tab 100000 (gk k118n 30) noLsp 118 ([] : List Blk).length Try.f118.ntmps) Try.f118 [.sl .nn kI2 es] [] = bif vev118s_1 es then some (AV.rf 0 kI2, [Blk.row kI2 (vev118s_0 es)]) else none := by
 refine Eq.trans (b := bif bif decide ((0 + es.length) * 16 ≤ 140737488355328) then decide (0 + es.length ≤ 9223372036854775807) else false then some (AV.rf 0 kI2, [Blk.row kI2 ([] ++ es)]) else none) (by kernel_rfl) ?_
 unfold vev118s_0 vev118s_1
 generalize (decide ((0 + es.length) * 16 ≤ 140737488355328)) = c0
 generalize (decide (0 + es.length ≤ 9223372036854775807)) = c1
 cases c0; rfl; cases c1; rfl; rfl
noncomputable def sp118s : Sp
 | [.sl .nn [.int .i64, .int .i64] es], [] => spW (vev118s_1 es) (fin Try.prog (tab.frz 118) ([] : List Blk).length Try.f118.resultTypes.toList (some ((AV.rf 0 kI2, [Blk.row kI2 (vev118s_0 es)]))))
 | _, _ => none
noncomputable def k118s : Gam := spG 118 sp118s k118n
theorem k118s_ok : GamOK Try.prog k118s := spG_ok k118n_ok fun T C r outs hs => by
   unfold sp118s at hs
   split at hs
   ·rename_i es
    obtain ⟨hb, hs⟩ := spW_inv hs
    have he := ev118s es
    rw [hb, cond_true] at he
    obtain ⟨h1, h2⟩ := fn_ok mixed plain (gk_ok k118n_ok 30) Try.func118 (fun c _ => LoopsOK.none (fun _ _ => rfl) c) he
    exact ⟨h1, h2.fin hs⟩
   ·cases hs
noncomputable def sp118c : Sp
 | [.sl _ [.int .i64, .int .i64] es], [] => some (Nat.ble (es.length * 16) 140737488355328, .rf 0 kI2, [.row kI2 es])
 | _, _ => none
noncomputable def k118c : Gam := spG 118 sp118c k118s
theorem k118c_ok : GamOK Try.prog k118c := spG_ok k118s_ok fun T C r outs hs => by
   unfold sp118c at hs
   split at hs
   ·rename_i t es
    injection hs with hs
    injection hs with hb hs
    injection hs with e1 e2
    subst e1 e2
    have hb := Nat.le_of_ble_eq_true hb
    have h1 := fn_ok mixed plain (gk_ok k111c_ok 30) Try.func118 (fun c _ => LoopsOK.none (fun _ _ => rfl) c) ev118n
    have he := ev118s es
    have hok : vev118s_1 es = true := by
     unfold vev118s_1
     rw [decide_eq_true (show (0 + es.length) * 16 ≤ 140737488355328 by omega), decide_eq_true (show 0 + es.length ≤ 9223372036854775807 by omega)]
     rfl
    rw [hok, cond_true] at he
    have h2 := fn_ok mixed plain (gk_ok k118n_ok 30) Try.func118 (fun c _ => LoopsOK.none (fun _ _ => rfl) c) he
    exact ⟨h1.1, clone_ok (by decide) h1.2 (fun h => h) h2.2 t⟩
   ·cases hs
end Go.Proofs.Gv
