/-
The plain law of AgingTells.
-/
import Derived.Test.YtgaadhlneglidaaGaAg5
import Derived.Test.YtgaadhlneglidaaGpAgF
namespace Go.Proofs.Gv
open Go.Proofs
set_option linter.unusedVariables false
theorem eqQ_refl (es : List (List AV)) : eqQ es es = true := by
  unfold eqQ
  have h : ff (df es es) es.length = es.length := ff_of (Nat.le_refl _) (fun h => absurd h (Nat.lt_irrefl _)) (fun j hj => by
    unfold df
    simp)
  rw [decide_eq_true rfl, h, decide_eq_false (Nat.lt_irrefl _)]
  rfl
theorem plain4 {l l2 n : Int} {es es2 : List (List AV)} (h1 : okQ es) (h2 : okQ es2) : vev4_0 l es l2 es2 n = true ∧ vev4_1 l es l2 es2 n = true := by
  unfold vev4_0 vev4_1 vev7_0
  by_cases a1 : (es.length : Int) ≤ 24
  · by_cases a2 : (es2.length : Int) ≤ 24
    · rw [decide_eq_true a1, decide_eq_true a2, (r9 (l := l) h1 (by omega)).1, (r9 (l := l) h1 (by omega)).2, (r9 (l := l2) h2 (by omega)).1, (r9 (l := l2) h2 (by omega)).2]
      rw [(r20 (by omega)).1, (r20 (by omega)).2, (r21 (by omega)).1, (r21 (by omega)).2, (r22 (by omega)).1, (r22 (by omega)).2, (r23 (by omega)).1, (r23 (by omega)).2, (r24 (by omega)).1, (r24 (by omega)).2, (r25 (by omega)).1, (r25 (by omega)).2, (r26 (by omega)).1, (r26 (by omega)).2, (r16 (by omega)).1, (r16 (by omega)).2]
      rw [(r17 (l := vev18_0 n) (es := []) (fun x hx => by cases hx) (by decide)).1, (r17 (l := vev18_0 n) (es := []) (fun x hx => by cases hx) (by decide)).2, r19.1, r19.2, (r16 (es := []) (es2 := []) (l := vev18_0 n) (l2 := vev18_0 n) (by decide)).1, (r16 (es := []) (es2 := []) (l := vev18_0 n) (l2 := vev18_0 n) (by decide)).2, eqQ_refl]
      simp
    · rw [decide_eq_true a1, decide_eq_false a2]
      exact ⟨rfl, rfl⟩
  · rw [decide_eq_false a1]
    exact ⟨rfl, rfl⟩
theorem law4 {l l2 n : Int} {es es2 : List (List AV)} (h1 : okQ es) (h2 : okQ es2) : FnOK Try.prog 4 [.agg [.int .i64 l, .sl .imm [.int .i64, .int .i64, .int .i64, .int .i64] es], .agg [.int .i64 l2, .sl .imm [.int .i64, .int .i64, .int .i64, .int .i64] es2], .int .i64 n] [] (.bool true) [] := by
  obtain ⟨h0, h3⟩ := plain4 (l := l) (l2 := l2) (n := n) h1 h2
  have he := ev4 l es l2 es2 n
  rw [h3, h0, cond_true] at he
  exact (fn_ok mixed plain (gk_ok k17_ok 30) Try.func4 (fun c _ => LoopsOK.none (fun _ _ => rfl) c) he).2
end Go.Proofs.Gv
