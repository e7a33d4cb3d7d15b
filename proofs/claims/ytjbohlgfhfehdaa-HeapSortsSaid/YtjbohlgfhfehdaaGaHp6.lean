import Derived.Test.YtjbohlgfhfehdaaGt
import Derived.KernelRfl
import Derived.Test.YtjbohlgfhfehdaaGaHz
import Derived.Test.YtjbohlgfhfehdaaGwF
import Derived.Test.YtjbohlgfhfehdaaGxJ
import Derived.Test.YtjbohlgfhfehdaaGaHp3
namespace Go.Proofs.Gv
open Go.Proofs
set_option linter.unusedVariables false
noncomputable def sp27 : List AV → List Blk → Option (Bool × AV × List Blk)
  | [.rf 0 [.int .i64, .int .i64], .fn 28 []], [.row [.int .i64, .int .i64] es] => some (Nat.ble es.length 1000000, .tup [], [.row [.int .i64, .int .i64] (sortR es)])
  | _, _ => none
noncomputable def k27 : Gam := fun f T C => match Nat.beq f 27 with
  | true => (sp27 T C).or (k9 f T C)
  | false => k9 f T C
theorem k27_ok : GamOK Try.prog k27 := by
  intro f T C r outs h
  unfold k27 at h
  cases hf : Nat.beq f 27 with
  | false => rw [hf] at h; exact k9_ok f T C r outs h
  | true =>
    have hf' := Nat.eq_of_beq_eq_true hf
    subst hf'
    rw [hf] at h
    dsimp only at h
    cases hs : sp27 T C with
    | none => rw [hs] at h; exact k9_ok _ T C r outs h
    | some x =>
      rw [hs] at h
      have hx : x = (true, r, outs) := by simpa using h
      subst hx
      unfold sp27 at hs
      split at hs
      · injection hs with hs
        injection hs with hb hs
        injection hs with e1 e2
        subst e1 e2
        exact ⟨enters_of Try.func27 (by kernel_rfl) rfl, sort27_ok (Nat.le_of_ble_eq_true hb)⟩
      · cases hs
noncomputable def vev11_0 (tk : Tk) (es : List (List AV)) : Bool := bif (es.length * (16 : Nat)).ble (140737488355328 : Nat) then bif es.length.ble (1000000 : Nat) then true else false else false
theorem ev11 (tk : Tk) (es : List (List AV)) : evFin (cfg Try.prog tab 100000 (gk k27 30) noLsp 11 ([] : List Blk).length Try.f11.ntmps) ([] : List Blk).length Try.f11.resultTypes.toList Try.f11 [.sl tk [.int .i64, .int .i64] es] [] = bif vev11_0 tk es then some (true, AV.sl Tk.imm [Kd.int IntKind.i64, Kd.int IntKind.i64] (sortR es), []) else none := by
  have h : evFin (cfg Try.prog tab 100000 (gk k27 30) noLsp 11 ([] : List Blk).length Try.f11.ntmps) ([] : List Blk).length Try.f11.resultTypes.toList Try.f11 [.sl tk [.int .i64, .int .i64] es] [] = bif (es.length * (16 : Nat)).ble (140737488355328 : Nat) then bif es.length.ble (1000000 : Nat) then some (true, AV.sl Tk.imm [Kd.int IntKind.i64, Kd.int IntKind.i64] (sortR es), []) else none else none := by kernel_rfl
  rw [h]
  clear h
  unfold vev11_0
  generalize ((es.length * (16 : Nat)).ble (140737488355328 : Nat)) = c0
  generalize (es.length.ble (1000000 : Nat)) = c1
  cases c0
  · skip
    rfl
  · skip
    cases c1
    · skip
      rfl
    · skip
      rfl
-- spec vev11_0 tk es ;; (true, AV.sl Tk.imm [Kd.int IntKind.i64, Kd.int IntKind.i64] (sortR es), [])
noncomputable def sp11 : List AV → List Blk → Option (Bool × AV × List Blk)
  | [.sl tk [.int .i64, .int .i64] es], [] => spW (vev11_0 tk es) (some ((true, AV.sl Tk.imm [Kd.int IntKind.i64, Kd.int IntKind.i64] (sortR es), [])))
  | _, _ => none
noncomputable def k11 : Gam := fun f T C => match Nat.beq f 11 with
  | true => (sp11 T C).or (k27 f T C)
  | false => k27 f T C
theorem k11_ok : GamOK Try.prog k11 := by
  intro f T C r outs h
  unfold k11 at h
  cases hf : Nat.beq f 11 with
  | false => rw [hf] at h; exact k27_ok f T C r outs h
  | true =>
    have hf' := Nat.eq_of_beq_eq_true hf
    subst hf'
    rw [hf] at h
    dsimp only at h
    cases hs : sp11 T C with
    | none => rw [hs] at h; exact k27_ok _ T C r outs h
    | some x =>
      rw [hs] at h
      have hx : x = (true, r, outs) := by simpa using h
      subst hx
      unfold sp11 at hs
      split at hs
      · rename_i tk es
        obtain ⟨hb, rfl, rfl⟩ := spT_inv hs
        have he := ev11 tk es
        rw [hb, cond_true] at he
        obtain ⟨r0, o0, h0, he⟩ := evFin_inv he
        obtain ⟨h1, h2⟩ := fn_ok mixed plain (gk_ok k27_ok 30) Try.func11 (fun c _ => LoopsOK.none (fun _ _ => rfl) c) h0
        exact ⟨h1, h2.fin he⟩
      · cases hs
end Go.Proofs.Gv
