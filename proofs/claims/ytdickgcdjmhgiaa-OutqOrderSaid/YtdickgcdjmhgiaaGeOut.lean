/-
What slices.Clone answers.
-/
import Derived.Test.YtdickgcdjmhgiaaGeOutA
import Derived.Test.YtdickgcdjmhgiaaGwD
namespace Go.Proofs.Gv
open Go.Proofs
set_option linter.unusedVariables false
theorem spT_inv {ok b' : Bool} {r r' : AV} {o o' : List Blk} (h : spW ok (some (b', r', o')) = some (true, r, o)) : ok = true ∧ r' = r ∧ o' = o := by
  unfold spW at h
  injection h with h
  injection h with h1 h
  injection h with h2 h3
  exact ⟨h1, h2, h3⟩
noncomputable def sp26c : List AV → List Blk → Option (Bool × AV × List Blk)
  | [.sl _ [.str] es], [] => some (Nat.ble (es.length * 16) 140737488355328, .rf 0 [.str], [.row [.str] es])
  | _, _ => none
noncomputable def k26c : Gam := fun f T C => match Nat.beq f 26 with
  | true => (sp26c T C).or (k26s f T C)
  | false => k26s f T C
theorem k26c_ok : GamOK Try.prog k26c := by
  intro f T C r outs h
  unfold k26c at h
  cases hf : Nat.beq f 26 with
  | false => rw [hf] at h; exact k26s_ok f T C r outs h
  | true =>
    have hf' := Nat.eq_of_beq_eq_true hf
    subst hf'
    rw [hf] at h
    dsimp only at h
    cases hs : sp26c T C with
    | none => rw [hs] at h; exact k26s_ok _ T C r outs h
    | some x =>
      rw [hs] at h
      have hx : x = (true, r, outs) := by simpa using h
      subst hx
      unfold sp26c at hs
      split at hs
      · rename_i t es
        injection hs with hs
        injection hs with hb hs
        injection hs with e1 e2
        subst e1 e2
        have hb := Nat.le_of_ble_eq_true hb
        have h1 := fn_ok mixed plain (gk_ok k8_ok 30) Try.func26 (fun c _ => LoopsOK.none (fun _ _ => rfl) c) ev26n
        have he := ev26s es
        have hok : vev26s_1 es = true := by
          unfold vev26s_1
          rw [decide_eq_true (show (0 + es.length) * 16 ≤ 140737488355328 by omega), decide_eq_true (show 0 + es.length ≤ 9223372036854775807 by omega)]
          rfl
        rw [hok, cond_true] at he
        have h2 := fn_ok mixed plain (gk_ok k26n_ok 30) Try.func26 (fun c _ => LoopsOK.none (fun _ _ => rfl) c) he
        exact ⟨h1.1, clone_ok (by decide) h1.2 (fun h => h) h2.2 t⟩
      · cases hs
end Go.Proofs.Gv
