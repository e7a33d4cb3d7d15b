/-
What slices.Clone answers.
-/
import Derived.Test.YteomgnfnigflnaaGdTag
import Derived.Test.YteomgnfnigflnaaGwD
namespace Go.Proofs.Gv
open Go.Proofs
set_option linter.unusedVariables false
noncomputable def sp31c : List AV → List Blk → Option (Bool × AV × List Blk)
  | [.sl _ [.int .i64, .int .i64, .int .i64, .int .i64] es], [] => some (Nat.ble (es.length * 32) 140737488355328, .rf 0 [.int .i64, .int .i64, .int .i64, .int .i64], [.row [.int .i64, .int .i64, .int .i64, .int .i64] es])
  | _, _ => none
noncomputable def k31c : Gam := fun f T C => match Nat.beq f 31 with
  | true => (sp31c T C).or (k31s f T C)
  | false => k31s f T C
theorem k31c_ok : GamOK Try.prog k31c := by
  intro f T C r outs h
  unfold k31c at h
  cases hf : Nat.beq f 31 with
  | false => rw [hf] at h; exact k31s_ok f T C r outs h
  | true =>
    have hf' := Nat.eq_of_beq_eq_true hf
    subst hf'
    rw [hf] at h
    dsimp only at h
    cases hs : sp31c T C with
    | none => rw [hs] at h; exact k31s_ok _ T C r outs h
    | some x =>
      rw [hs] at h
      have hx : x = (true, r, outs) := by simpa using h
      subst hx
      unfold sp31c at hs
      split at hs
      · rename_i t es
        injection hs with hs
        injection hs with hb hs
        injection hs with e1 e2
        subst e1 e2
        have hb := Nat.le_of_ble_eq_true hb
        have h1 := fn_ok mixed plain (gk_ok k17_ok 30) Try.func31 (fun c _ => LoopsOK.none (fun _ _ => rfl) c) ev31n
        have he := ev31s es
        have hok : vev31s_1 es = true := by
          unfold vev31s_1
          rw [decide_eq_true (show (0 + es.length) * 32 ≤ 140737488355328 by omega), decide_eq_true (show 0 + es.length ≤ 9223372036854775807 by omega)]
          rfl
        rw [hok, cond_true] at he
        have h2 := fn_ok mixed plain (gk_ok k31n_ok 30) Try.func31 (fun c _ => LoopsOK.none (fun _ _ => rfl) c) he
        exact ⟨h1.1, clone_ok (by decide) h1.2 (fun h => h) h2.2 t⟩
      · cases hs
end Go.Proofs.Gv
