/-
Aging: the work that is left.
-/
import Derived.Test.YtgaadhlneglidaaGpAgC
namespace Go.Proofs.Gv
open Go.Proofs
set_option linter.unusedVariables false
variable {tk tk2 : Tk} {es es2 : List (List AV)} {l l2 id : Int}
/-- The work of the first i requests. -/
def sm (es : List (List AV)) : Nat → Int
  | 0 => 0
  | i + 1 => IntKind.i64.wrap (sm es i + q2 es i)
theorem ends22 (hN : es.length ≤ 1000) : Ends (g22_5 (tk, es, (es.length : Int))) (n22_5 (tk, es, (es.length : Int))) ((0 : Int), (0 : Int)) (sm es es.length, (es.length : Int)) := by
  refine Ends.count (go := g22_5 (tk, es, (es.length : Int))) (next := n22_5 (tk, es, (es.length : Int))) es.length (fun i => (sm es i, (i : Int))) (fun i hi => ?_) ?_
  · constructor
    · show go22_5 (sm es i) tk es (es.length : Int) (i : Int) = true
      unfold go22_5
      rw [decide_eq_true (show (i : Int) < (es.length : Int) by omega), decide_eq_true (show (0 : Int) ≤ (i : Int) by omega)]
      rfl
    · show (nx22_5_0 (sm es i) tk es (es.length : Int) (i : Int), nx22_5_4 (sm es i) tk es (es.length : Int) (i : Int)) = _
      unfold nx22_5_0 nx22_5_4
      rw [nxt i _ hi hN, Int.toNat_natCast]
      rfl
  · show go22_5 (sm es es.length) tk es (es.length : Int) (es.length : Int) = false
    unfold go22_5
    rw [decide_eq_false (by omega)]
    rfl
/-- What Left answers. -/
noncomputable def lft (l : Int) (es : List (List AV)) : Int := bif chk l es == 0 then sm es es.length else 0
theorem r22 (hN : es.length ≤ 1000) : vev22_0 l tk es = lft l es ∧ vev22_1 l tk es = true := by
  have h := (ends22 (tk := tk) hN).fin
  unfold vev22_0 vev22_1 rev22_0 lft
  rw [(r24 hN).1, (r24 hN).2, show (chk l es != 0) = !(chk l es == 0) from rfl]
  simp only [spI]
  rw [h.2, h.1]
  unfold z22_5 xc22_5_0
  dsimp only
  rw [decide_eq_false (show ¬ (es.length : Int) < (es.length : Int) by omega)]
  cases (chk l es == 0) <;> exact ⟨rfl, rfl⟩
theorem go23 (t3 : Int) (i : Nat) (hN : es.length ≤ 1000) : go23_3 t3 (i : Int) l tk es = (decide (i < es.length) && chk l es == 0) := by
  unfold go23_3
  rw [(r25 hN).1, (r25 hN).2]
  by_cases h : i < es.length
  · rw [decide_eq_true (show (i : Int) < (es.length : Int) by omega), decide_eq_true h, decide_eq_true (show (0 : Int) ≤ (i : Int) by omega)]
    cases (chk l es == 0) <;> rfl
  · rw [decide_eq_false (show ¬ (i : Int) < (es.length : Int) by omega), decide_eq_false h]
    rfl
theorem ends23 (hN : es.length ≤ 1000) : Ends (g23_3 (l, tk, es)) (n23_3 (l, tk, es)) ((0 : Int), (0 : Int)) (bif chk l es == 0 then (sm es es.length, (es.length : Int)) else (0, 0)) := by
  cases hc : (chk l es == 0)
  · refine Ends.stop ?_
    show go23_3 0 ((0 : Nat) : Int) l tk es = false
    rw [go23 _ _ hN, hc, Bool.and_false]
  · refine Ends.count (go := g23_3 (l, tk, es)) (next := n23_3 (l, tk, es)) es.length (fun i => (sm es i, (i : Int))) (fun i hi => ?_) ?_
    · constructor
      · show go23_3 (sm es i) (i : Int) l tk es = true
        rw [go23 _ _ hN, hc, decide_eq_true hi]
        rfl
      · show (nx23_3_0 (sm es i) (i : Int) l tk es, nx23_3_1 (sm es i) (i : Int) l tk es) = _
        unfold nx23_3_0 nx23_3_1
        rw [nxt i _ hi hN, Int.toNat_natCast]
        rfl
    · show go23_3 (sm es es.length) (es.length : Int) l tk es = false
      rw [go23 _ _ hN, decide_eq_false (by omega)]
      rfl
theorem r23 (hN : es.length ≤ 1000) : vev23_0 l tk es = lft l es ∧ vev23_1 l tk es = true := by
  have h := (ends23 (tk := tk) (l := l) hN).fin
  unfold vev23_0 vev23_1 rev23_0 lft
  simp only [spI]
  rw [h.2, h.1]
  unfold z23_3 xc23_3_0
  dsimp only
  rw [(r25 hN).1, (r25 hN).2]
  cases hc : (chk l es == 0)
  · dsimp only [cond_false]
    cases decide ((0 : Int) < (es.length : Int)) <;> exact ⟨rfl, rfl⟩
  · dsimp only [cond_true]
    rw [decide_eq_false (show ¬ (es.length : Int) < (es.length : Int) by omega)]
    exact ⟨rfl, rfl⟩
end Go.Proofs.Gv
