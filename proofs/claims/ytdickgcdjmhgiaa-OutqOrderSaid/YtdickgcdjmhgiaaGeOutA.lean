import Derived.Test.YtdickgcdjmhgiaaGt
import Derived.KernelRfl
import Derived.Test.YtdickgcdjmhgiaaGdOut
namespace Go.Proofs.Gv
open Go.Proofs
set_option linter.unusedVariables false
theorem ev26n : evFun (cfg Try.prog tab 100000 (gk k8 30) noLsp 26 ([] : List Blk).length Try.f26.ntmps) Try.f26 [.nil] [] = some (AV.nil, []) := by kernel_rfl
-- spec true ;; (AV.nil, [])
noncomputable def sp26n : List AV → List Blk → Option (Bool × AV × List Blk)
  | [.nil], [] => spW (true) (fin Try.prog (tab.frz 26) ([] : List Blk).length Try.f26.resultTypes.toList (some ((AV.nil, []))))
  | _, _ => none
noncomputable def k26n : Gam := fun f T C => match Nat.beq f 26 with
  | true => (sp26n T C).or (k8 f T C)
  | false => k8 f T C
theorem k26n_ok : GamOK Try.prog k26n := by
  intro f T C r outs h
  unfold k26n at h
  cases hf : Nat.beq f 26 with
  | false => rw [hf] at h; exact k8_ok f T C r outs h
  | true =>
    have hf' := Nat.eq_of_beq_eq_true hf
    subst hf'
    rw [hf] at h
    dsimp only at h
    cases hs : sp26n T C with
    | none => rw [hs] at h; exact k8_ok _ T C r outs h
    | some x =>
      rw [hs] at h
      have hx : x = (true, r, outs) := by simpa using h
      subst hx
      unfold sp26n at hs
      split at hs
      · obtain ⟨hb, hs⟩ := spW_inv hs
        have he := ev26n 
        obtain ⟨h1, h2⟩ := fn_ok mixed plain (gk_ok k8_ok 30) Try.func26 (fun c _ => LoopsOK.none (fun _ _ => rfl) c) he
        exact ⟨h1, h2.fin hs⟩
      · cases hs
noncomputable def vev26s_0 (es : List (List AV)) : List (List AV) := [] ++ es
noncomputable def vev26s_1 (es : List (List AV)) : Bool := bif bif decide (((0 : Nat) + es.length) * (16 : Nat) ≤ (140737488355328 : Nat)) then decide ((0 : Nat) + es.length ≤ (9223372036854775807 : Nat)) else false then true else false
theorem ev26s (es : List (List AV)) : evFun (cfg Try.prog tab 100000 (gk k26n 30) noLsp 26 ([] : List Blk).length Try.f26.ntmps) Try.f26 [.sl .nn [.str] es] [] = bif vev26s_1 es then some (AV.rf (nat_lit 0) [Kd.str], [Blk.row [Kd.str] (vev26s_0 es)]) else none := by
  have h : evFun (cfg Try.prog tab 100000 (gk k26n 30) noLsp 26 ([] : List Blk).length Try.f26.ntmps) Try.f26 [.sl .nn [.str] es] [] = bif bif decide (((0 : Nat) + es.length) * (16 : Nat) ≤ (140737488355328 : Nat)) then decide ((0 : Nat) + es.length ≤ (9223372036854775807 : Nat)) else false then some (AV.rf (nat_lit 0) [Kd.str], [Blk.row [Kd.str] ([] ++ es)]) else none := by kernel_rfl
  rw [h]
  clear h
  unfold vev26s_0 vev26s_1
  generalize (decide (((0 : Nat) + es.length) * (16 : Nat) ≤ (140737488355328 : Nat))) = c0
  generalize (decide ((0 : Nat) + es.length ≤ (9223372036854775807 : Nat))) = c1
  cases c0
  · skip
    rfl
  · skip
    cases c1
    · skip
      rfl
    · skip
      rfl
-- spec vev26s_1 es ;; (AV.rf (nat_lit 0) [Kd.str], [Blk.row [Kd.str] (vev26s_0 es)])
noncomputable def sp26s : List AV → List Blk → Option (Bool × AV × List Blk)
  | [.sl .nn [.str] es], [] => spW (vev26s_1 es) (fin Try.prog (tab.frz 26) ([] : List Blk).length Try.f26.resultTypes.toList (some ((AV.rf (nat_lit 0) [Kd.str], [Blk.row [Kd.str] (vev26s_0 es)]))))
  | _, _ => none
noncomputable def k26s : Gam := fun f T C => match Nat.beq f 26 with
  | true => (sp26s T C).or (k26n f T C)
  | false => k26n f T C
theorem k26s_ok : GamOK Try.prog k26s := by
  intro f T C r outs h
  unfold k26s at h
  cases hf : Nat.beq f 26 with
  | false => rw [hf] at h; exact k26n_ok f T C r outs h
  | true =>
    have hf' := Nat.eq_of_beq_eq_true hf
    subst hf'
    rw [hf] at h
    dsimp only at h
    cases hs : sp26s T C with
    | none => rw [hs] at h; exact k26n_ok _ T C r outs h
    | some x =>
      rw [hs] at h
      have hx : x = (true, r, outs) := by simpa using h
      subst hx
      unfold sp26s at hs
      split at hs
      · rename_i es
        obtain ⟨hb, hs⟩ := spW_inv hs
        have he := ev26s es
        rw [hb, cond_true] at he
        obtain ⟨h1, h2⟩ := fn_ok mixed plain (gk_ok k26n_ok 30) Try.func26 (fun c _ => LoopsOK.none (fun _ _ => rfl) c) he
        exact ⟨h1, h2.fin hs⟩
      · cases hs
end Go.Proofs.Gv
