import Derived.Test.YteomgnfnigflnaaGt
import Derived.KernelRfl
import Derived.Test.YteomgnfnigflnaaGcTag
namespace Go.Proofs.Gv
open Go.Proofs
set_option linter.unusedVariables false
theorem ev31n : evFun (cfg Try.prog tab 100000 (gk k17 30) noLsp 31 ([] : List Blk).length Try.f31.ntmps) Try.f31 [.nil] [] = some (AV.nil, []) := by kernel_rfl
-- spec true ;; (AV.nil, [])
noncomputable def sp31n : List AV → List Blk → Option (Bool × AV × List Blk)
  | [.nil], [] => spW (true) (fin Try.prog (tab.frz 31) ([] : List Blk).length Try.f31.resultTypes.toList (some ((AV.nil, []))))
  | _, _ => none
noncomputable def k31n : Gam := fun f T C => match Nat.beq f 31 with
  | true => (sp31n T C).or (k17 f T C)
  | false => k17 f T C
theorem k31n_ok : GamOK Try.prog k31n := by
  intro f T C r outs h
  unfold k31n at h
  cases hf : Nat.beq f 31 with
  | false => rw [hf] at h; exact k17_ok f T C r outs h
  | true =>
    have hf' := Nat.eq_of_beq_eq_true hf
    subst hf'
    rw [hf] at h
    dsimp only at h
    cases hs : sp31n T C with
    | none => rw [hs] at h; exact k17_ok _ T C r outs h
    | some x =>
      rw [hs] at h
      have hx : x = (true, r, outs) := by simpa using h
      subst hx
      unfold sp31n at hs
      split at hs
      · obtain ⟨hb, hs⟩ := spW_inv hs
        have he := ev31n 
        obtain ⟨h1, h2⟩ := fn_ok mixed plain (gk_ok k17_ok 30) Try.func31 (fun c _ => LoopsOK.none (fun _ _ => rfl) c) he
        exact ⟨h1, h2.fin hs⟩
      · cases hs
noncomputable def vev31s_0 (es : List (List AV)) : List (List AV) := [] ++ es
noncomputable def vev31s_1 (es : List (List AV)) : Bool := bif bif decide (((0 : Nat) + es.length) * (32 : Nat) ≤ (140737488355328 : Nat)) then decide ((0 : Nat) + es.length ≤ (9223372036854775807 : Nat)) else false then true else false
theorem ev31s (es : List (List AV)) : evFun (cfg Try.prog tab 100000 (gk k31n 30) noLsp 31 ([] : List Blk).length Try.f31.ntmps) Try.f31 [.sl .nn [.int .i64, .int .i64, .int .i64, .int .i64] es] [] = bif vev31s_1 es then some (AV.rf (nat_lit 0) [Kd.int IntKind.i64, Kd.int IntKind.i64, Kd.int IntKind.i64, Kd.int IntKind.i64], [Blk.row [Kd.int IntKind.i64, Kd.int IntKind.i64, Kd.int IntKind.i64, Kd.int IntKind.i64] (vev31s_0 es)]) else none := by
  have h : evFun (cfg Try.prog tab 100000 (gk k31n 30) noLsp 31 ([] : List Blk).length Try.f31.ntmps) Try.f31 [.sl .nn [.int .i64, .int .i64, .int .i64, .int .i64] es] [] = bif bif decide (((0 : Nat) + es.length) * (32 : Nat) ≤ (140737488355328 : Nat)) then decide ((0 : Nat) + es.length ≤ (9223372036854775807 : Nat)) else false then some (AV.rf (nat_lit 0) [Kd.int IntKind.i64, Kd.int IntKind.i64, Kd.int IntKind.i64, Kd.int IntKind.i64], [Blk.row [Kd.int IntKind.i64, Kd.int IntKind.i64, Kd.int IntKind.i64, Kd.int IntKind.i64] ([] ++ es)]) else none := by kernel_rfl
  rw [h]
  clear h
  unfold vev31s_0 vev31s_1
  generalize (decide (((0 : Nat) + es.length) * (32 : Nat) ≤ (140737488355328 : Nat))) = c0
  generalize (decide ((0 : Nat) + es.length ≤ (9223372036854775807 : Nat))) = c1
  cases c0
  · skip
    rfl
  · skip
    cases c1
    · skip
      rfl
    · skip
      rfl
-- spec vev31s_1 es ;; (AV.rf (nat_lit 0) [Kd.int IntKind.i64, Kd.int IntKind.i64, Kd.int IntKind.i64, Kd.int IntKind.i64], [Blk.row [Kd.int IntKind.i64, Kd.int IntKind.i64, Kd.int IntKind.i64, Kd.int IntKind.i64] (vev31s_0 es)])
noncomputable def sp31s : List AV → List Blk → Option (Bool × AV × List Blk)
  | [.sl .nn [.int .i64, .int .i64, .int .i64, .int .i64] es], [] => spW (vev31s_1 es) (fin Try.prog (tab.frz 31) ([] : List Blk).length Try.f31.resultTypes.toList (some ((AV.rf (nat_lit 0) [Kd.int IntKind.i64, Kd.int IntKind.i64, Kd.int IntKind.i64, Kd.int IntKind.i64], [Blk.row [Kd.int IntKind.i64, Kd.int IntKind.i64, Kd.int IntKind.i64, Kd.int IntKind.i64] (vev31s_0 es)]))))
  | _, _ => none
noncomputable def k31s : Gam := fun f T C => match Nat.beq f 31 with
  | true => (sp31s T C).or (k31n f T C)
  | false => k31n f T C
theorem k31s_ok : GamOK Try.prog k31s := by
  intro f T C r outs h
  unfold k31s at h
  cases hf : Nat.beq f 31 with
  | false => rw [hf] at h; exact k31n_ok f T C r outs h
  | true =>
    have hf' := Nat.eq_of_beq_eq_true hf
    subst hf'
    rw [hf] at h
    dsimp only at h
    cases hs : sp31s T C with
    | none => rw [hs] at h; exact k31n_ok _ T C r outs h
    | some x =>
      rw [hs] at h
      have hx : x = (true, r, outs) := by simpa using h
      subst hx
      unfold sp31s at hs
      split at hs
      · rename_i es
        obtain ⟨hb, hs⟩ := spW_inv hs
        have he := ev31s es
        rw [hb, cond_true] at he
        obtain ⟨h1, h2⟩ := fn_ok mixed plain (gk_ok k31n_ok 30) Try.func31 (fun c _ => LoopsOK.none (fun _ _ => rfl) c) he
        exact ⟨h1, h2.fin hs⟩
      · cases hs
end Go.Proofs.Gv
