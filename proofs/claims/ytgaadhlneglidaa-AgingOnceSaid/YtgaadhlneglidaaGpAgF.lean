/-
Aging: who is next, on both sides.
-/
import Derived.Test.YtgaadhlneglidaaGpAgE
namespace Go.Proofs.Gv
open Go.Proofs
set_option linter.unusedVariables false
variable {tk tk2 : Tk} {es es2 : List (List AV)} {l l2 id : Int}
/-- What Next answers. -/
noncomputable def nx (l : Int) (es : List (List AV)) : Int := bif chk l es != 0 then -1 else bif decide (ff (fun i => decide (q3 es i ≥ l)) es.length < es.length) then ((ff (fun i => decide (q3 es i ≥ l)) es.length : Nat) : Int) else bif decide (0 < es.length) then ((amN es (es.length - 1) : Nat) : Int) else -1
theorem r20 (hN : es.length ≤ 1000) : vev20_0 l tk es = nx l es ∧ vev20_1 l tk es = true := by
  unfold vev20_0 vev20_1 nx
  rw [(r24 hN).1, (r24 hN).2, (r36b hN).1, (r36b hN).2, r29 hN]
  cases hc : (chk l es != 0) with
  | true =>
    cases ((es.length : Int) == 0) <;> exact ⟨rfl, rfl⟩
  | false =>
    have g : Good l es := chk_good (by simpa using hc)
    have hi := ix_nonneg (fun i => decide (q3 es i ≥ l)) es.length
    have h0 := ff_le (fun i => decide (q3 es i ≥ l)) es.length
    by_cases hz : 0 < es.length
    · rw [show ((es.length : Int) == 0) = false by simp; intro h; subst h; simp at hz, decide_eq_true hz]
      by_cases h2 : ff (fun i => decide (q3 es i ≥ l)) es.length < es.length
      · rw [decide_eq_true (show ix (fun i => decide (q3 es i ≥ l)) es.length ≥ 0 from hi.2 h2), decide_eq_true h2]
        refine ⟨?_, rfl⟩
        show ix (fun i => decide (q3 es i ≥ l)) es.length = _
        unfold ix
        rw [if_pos h2]
        rfl
      · rw [decide_eq_false (show ¬ ix (fun i => decide (q3 es i ≥ l)) es.length ≥ 0 from fun h => h2 (hi.1 h)), decide_eq_false h2, (r37 g hz).1, (r37 g hz).2, (r36a hN).1, g.place (show amN es (es.length - 1) < es.length by have := amN_le es (es.length - 1); omega)]
        exact ⟨rfl, rfl⟩
    · have hz' : es.length = 0 := by omega
      rw [hz']
      refine ⟨?_, rfl⟩
      rw [decide_eq_false (show ¬ ff (fun i => decide (q3 es i ≥ l)) 0 < 0 by omega)]
      rfl
theorem ends21a (hN : es.length ≤ 1000) : Ends (g21_4 (l, tk, es)) (n21_4 (l, tk, es)) (0 : Int) ((ff (fun i => decide (q3 es i ≥ l)) es.length : Nat) : Int) := by
  refine Ends.first _ _ (fun i hi => ?_) (fun i hi => nxt i _ hi hN)
  show go21_4 (i : Int) l tk es = _
  unfold go21_4 rn21_4_0
  rw [Int.toNat_natCast]
  by_cases h : i < es.length
  · rw [decide_eq_true (show (i : Int) < (es.length : Int) by omega), decide_eq_true h, decide_eq_true (show (0 : Int) ≤ (i : Int) by omega)]
    show (bif decide (q3 es i ≥ l) then false else true) = _
    cases decide (q3 es i ≥ l) <;> rfl
  · rw [decide_eq_false (show ¬ (i : Int) < (es.length : Int) by omega), decide_eq_false h]
    rfl
/-- The place that was best after i requests. -/
def amI (es : List (List AV)) : Nat → Int
  | 0 => -1
  | i + 1 => ((amN es i : Nat) : Int)
theorem ends21b (hN : es.length ≤ 1000) : Ends (g21_10 (l, tk, es)) (n21_10 (l, tk, es)) ((-1 : Int), (0 : Int)) (amI es es.length, (es.length : Int)) := by
  refine Ends.count (go := g21_10 (l, tk, es)) (next := n21_10 (l, tk, es)) es.length (fun i => (amI es i, (i : Int))) (fun i hi => ?_) ?_
  · have hn := nxt i es.length hi hN
    cases i with
    | zero =>
      constructor
      · show go21_10 (-1) ((0 : Nat) : Int) l tk es = true
        unfold go21_10
        rw [decide_eq_true (show ((0 : Nat) : Int) < (es.length : Int) by omega)]
        rfl
      · show (nx21_10_0 (-1) ((0 : Nat) : Int) l tk es, nx21_10_1 (-1) ((0 : Nat) : Int) l tk es) = _
        unfold nx21_10_0 nx21_10_1
        rw [hn]
        rfl
    | succ i =>
      have ha := amN_le es i
      constructor
      · show go21_10 ((amN es i : Nat) : Int) ((i + 1 : Nat) : Int) l tk es = true
        unfold go21_10
        rw [decide_eq_true (show ((i + 1 : Nat) : Int) < (es.length : Int) by omega), decide_eq_false (show ¬ ((amN es i : Nat) : Int) < 0 by omega), decide_eq_true (show (0 : Int) ≤ ((i + 1 : Nat) : Int) by omega), decide_eq_true (show (0 : Int) ≤ ((amN es i : Nat) : Int) by omega), decide_eq_true (show ((amN es i : Nat) : Int) < (es.length : Int) by omega)]
        rfl
      · show (nx21_10_0 ((amN es i : Nat) : Int) ((i + 1 : Nat) : Int) l tk es, nx21_10_1 ((amN es i : Nat) : Int) ((i + 1 : Nat) : Int) l tk es) = _
        unfold nx21_10_0 nx21_10_1 rn21_10_0 rn21_10_1
        rw [hn, decide_eq_true (show ((i + 1 : Nat) : Int) < (es.length : Int) by omega), decide_eq_false (show ¬ ((amN es i : Nat) : Int) < 0 by omega), decide_eq_true (show (0 : Int) ≤ ((i + 1 : Nat) : Int) by omega), decide_eq_true (show (0 : Int) ≤ ((amN es i : Nat) : Int) by omega), decide_eq_true (show ((amN es i : Nat) : Int) < (es.length : Int) by omega), Int.toNat_natCast, Int.toNat_natCast]
        refine Prod.ext ?_ rfl
        show (bif decide (q1 es (i + 1) < q1 es (amN es i)) then ((i + 1 : Nat) : Int) else ((amN es i : Nat) : Int)) = ((amN es (i + 1) : Nat) : Int)
        by_cases hc : q1 es (i + 1) < q1 es (amN es i)
        · have e : amN es (i + 1) = i + 1 := by show (if _ then _ else _) = _; rw [if_pos hc]
          rw [decide_eq_true hc, e]
          rfl
        · have e : amN es (i + 1) = amN es i := by show (if _ then _ else _) = _; rw [if_neg hc]
          rw [decide_eq_false hc, e]
          rfl
  · show go21_10 (amI es es.length) (es.length : Int) l tk es = false
    unfold go21_10
    rw [decide_eq_false (by omega)]
    rfl
theorem r21 (hN : es.length ≤ 1000) : vev21_0 l tk es = nx l es ∧ vev21_1 l tk es = true := by
  have ha := (ends21a (tk := tk) (l := l) hN).fin
  have hb := (ends21b (tk := tk) (l := l) hN).fin
  have h0 := ff_le (fun i => decide (q3 es i ≥ l)) es.length
  unfold vev21_0 vev21_1 nx rev21_0 rev21_1
  simp only [spI]
  rw [(r25 hN).1, (r25 hN).2, ha.1, ha.2, hb.1, hb.2]
  unfold y21_4 z21_4 z21_10 xc21_4_0 xc21_4_1 xc21_10_0 rn21_4_0
  dsimp only
  rw [Int.toNat_natCast, decide_eq_false (show ¬ (es.length : Int) < (es.length : Int) by omega)]
  cases hc : (chk l es != 0) with
  | true => exact ⟨rfl, rfl⟩
  | false =>
    by_cases h2 : ff (fun i => decide (q3 es i ≥ l)) es.length < es.length
    · have h3 := ff_hit h2
      rw [decide_eq_true (show ((ff (fun i => decide (q3 es i ≥ l)) es.length : Nat) : Int) < (es.length : Int) by omega), decide_eq_true (show (0 : Int) ≤ ((ff (fun i => decide (q3 es i ≥ l)) es.length : Nat) : Int) by omega), decide_eq_true h2]
      generalize ff (fun i => decide (q3 es i ≥ l)) es.length = k at h3
      have h4 : decide (intOf ((es.getD k []).getD (0 + 1 + 1 + 1) AV.junk) ≥ l) = true := h3
      simp only [h4]
      exact ⟨rfl, rfl⟩
    · rw [decide_eq_false (show ¬ ((ff (fun i => decide (q3 es i ≥ l)) es.length : Nat) : Int) < (es.length : Int) by omega), decide_eq_false h2]
      refine ⟨?_, rfl⟩
      show amI es es.length = _
      cases hl : es.length with
      | zero => rfl
      | succ k => rfl
end Go.Proofs.Gv
