/-
Aging: who is next.
-/
import Derived.Test.YtgaadhlneglidaaGpAgD
namespace Go.Proofs.Gv
open Go.Proofs
set_option linter.unusedVariables false
variable {tk tk2 : Tk} {es es2 : List (List AV)} {l l2 id : Int}
/-- What holds of a queue that may be. -/
structure Good (l : Int) (es : List (List AV)) : Prop where
  lim : 1 ≤ l ∧ l ≤ 1000
  len : es.length ≤ 16
  fit : ∀ i, i < es.length → vev28_0 (q0 es i) (q1 es i) (q2 es i) (q3 es i) = true
  one : ∀ i j, i < es.length → j < es.length → q0 es j = q0 es i → j = i
theorem in34 (n a b : Int) : (vev34_0 n a b = true) ↔ (a ≤ n ∧ n ≤ b) := by
  unfold vev34_0
  by_cases h : a ≤ n
  · rw [decide_eq_true h]
    by_cases h2 : n ≤ b
    · rw [decide_eq_true h2]; simp [h, h2]
    · rw [decide_eq_false h2]; simp [h2]
  · rw [decide_eq_false h]; simp [h]
theorem fits {a b c d : Int} : (vev28_0 a b c d = true) ↔ ((1 ≤ a ∧ a ≤ 2147483647) ∧ (0 ≤ b ∧ b ≤ 7) ∧ (1 ≤ c ∧ c ≤ 1099511627776) ∧ (0 ≤ d ∧ d ≤ 2000)) := by
  rw [← in34 a, ← in34 b, ← in34 c, ← in34 d]
  unfold vev28_0
  cases vev34_0 a 1 2147483647 <;> cases vev34_0 b 0 7 <;> cases vev34_0 c 1 1099511627776 <;> cases vev34_0 d 0 2000 <;> simp
theorem chk_good (h : chk l es = 0) : Good l es := by
  unfold chk at h
  cases h1 : vev34_0 l 1 1000 with
  | false => rw [h1] at h; cases h
  | true =>
    rw [h1] at h
    cases h2 : decide (16 < es.length) with
    | true => rw [h2] at h; cases h
    | false =>
      rw [h2] at h
      cases h3 : bad es with
      | true => rw [h3] at h; cases h
      | false =>
        rw [h3] at h
        cases h4 : decide (ff (dup es) es.length < es.length) with
        | true => rw [h4] at h; cases h
        | false =>
          have h2 := of_decide_eq_false h2
          have h4 := of_decide_eq_false h4
          unfold bad at h3
          have h3 := of_decide_eq_false h3
          have k1 := ff_le (dup es) es.length
          have k2 := ff_le (fun i => !vev28_0 (q0 es i) (q1 es i) (q2 es i) (q3 es i)) es.length
          have nd : ∀ i j, i < es.length → j < i → q0 es j ≠ q0 es i := fun i j hi hj he => by
            have k3 := ff_miss (P := dup es) (N := es.length) (j := i) (by omega)
            rw [← dup_ne hi] at k3
            have k4 : ix (fun j => q0 es j == q0 es i) es.length = (i : Int) := by simpa using k3
            have k5 := (ix_nonneg (fun j => q0 es j == q0 es i) es.length).1 (by omega)
            have k6 : ff (fun j => q0 es j == q0 es i) es.length = i := by
              unfold ix at k4
              rw [if_pos k5] at k4
              omega
            have k7 := ff_miss (P := fun j => q0 es j == q0 es i) (N := es.length) (j := j) (by omega)
            simp [he] at k7
          refine ⟨(in34 _ _ _).1 h1, by omega, fun i hi => ?_, fun i j hi hj he => ?_⟩
          · have k3 := ff_miss (P := fun i => !vev28_0 (q0 es i) (q1 es i) (q2 es i) (q3 es i)) (N := es.length) (j := i) (by omega)
            simpa using k3
          · rcases Nat.lt_trichotomy i j with h | h | h
            · exact absurd he.symm (nd j i hj h)
            · exact h.symm
            · exact absurd he (nd i j hi h)
theorem Good.place (g : Good l es) {k : Nat} (hk : k < es.length) : ix (fun j => q0 es j == q0 es k) es.length = (k : Int) := by
  have h : ff (fun j => q0 es j == q0 es k) es.length = k := ff_of (by omega) (fun _ => by simp) (fun j hj => by
    have : ¬ q0 es j = q0 es k := fun he => by
      have := g.one k j hk (by omega) he
      omega
    simp [this])
  unfold ix
  rw [h, if_pos hk]
/-- The place of the least rank among the first i + 1. -/
def amN (es : List (List AV)) : Nat → Nat
  | 0 => 0
  | i + 1 => if q1 es (i + 1) < q1 es (amN es i) then i + 1 else amN es i
theorem amN_le (es : List (List AV)) : ∀ i, amN es i ≤ i
  | 0 => Nat.le_refl _
  | i + 1 => by
    have := amN_le es i
    unfold amN
    split <;> omega
theorem ends37 (g : Good l es) (h0 : 0 < es.length) : Ends (g37_5 (tk, es, (0 : Int), (0 : Int), (0 : Int), (0 : Int))) (n37_5 (tk, es, (0 : Int), (0 : Int), (0 : Int), (0 : Int))) ((1 : Int), q0 es 0, q1 es 0, q2 es 0, q3 es 0) ((es.length : Int), q0 es (amN es (es.length - 1)), q1 es (amN es (es.length - 1)), q2 es (amN es (es.length - 1)), q3 es (amN es (es.length - 1))) := by
  have h := Ends.count (go := g37_5 (tk, es, (0 : Int), (0 : Int), (0 : Int), (0 : Int))) (next := n37_5 (tk, es, (0 : Int), (0 : Int), (0 : Int), (0 : Int))) (es.length - 1) (fun i => (((i + 1 : Nat) : Int), q0 es (amN es i), q1 es (amN es i), q2 es (amN es i), q3 es (amN es i))) (fun i hi => by
    have hl := g.len
    constructor
    · show go37_5 tk es ((i + 1 : Nat) : Int) _ _ _ _ 0 0 0 0 = true
      unfold go37_5
      rw [decide_eq_true (show ((i + 1 : Nat) : Int) < (es.length : Int) by omega), decide_eq_true (show (0 : Int) ≤ ((i + 1 : Nat) : Int) by omega)]
      rfl
    · have ha := amN_le es i
      have f1 := fits.1 (g.fit (i + 1) (by omega))
      have f2 := fits.1 (g.fit (amN es i) (by omega))
      have hw : IntKind.i64.wrap (q1 es (i + 1) - q1 es (amN es i)) = q1 es (i + 1) - q1 es (amN es i) := wrapOf _ (by omega) (by omega)
      have hn : IntKind.i64.wrap (((i + 1 : Nat) : Int) + 1) = ((i + 1 + 1 : Nat) : Int) := nxt (i + 1) es.length (by omega) (by omega)
      show (nx37_5_2 tk es ((i + 1 : Nat) : Int) (q0 es (amN es i)) (q1 es (amN es i)) (q2 es (amN es i)) (q3 es (amN es i)) 0 0 0 0, nx37_5_3 tk es ((i + 1 : Nat) : Int) (q0 es (amN es i)) (q1 es (amN es i)) (q2 es (amN es i)) (q3 es (amN es i)) 0 0 0 0, nx37_5_4 tk es ((i + 1 : Nat) : Int) (q0 es (amN es i)) (q1 es (amN es i)) (q2 es (amN es i)) (q3 es (amN es i)) 0 0 0 0, nx37_5_5 tk es ((i + 1 : Nat) : Int) (q0 es (amN es i)) (q1 es (amN es i)) (q2 es (amN es i)) (q3 es (amN es i)) 0 0 0 0, nx37_5_6 tk es ((i + 1 : Nat) : Int) (q0 es (amN es i)) (q1 es (amN es i)) (q2 es (amN es i)) (q3 es (amN es i)) 0 0 0 0) = _
      have hr : rn37_5_4 tk es ((i + 1 : Nat) : Int) (q0 es (amN es i)) (q1 es (amN es i)) (q2 es (amN es i)) (q3 es (amN es i)) 0 0 0 0 = q1 es (i + 1) - q1 es (amN es i) := by
        unfold rn37_5_4 rn37_5_1 vev38_0
        rw [Int.toNat_natCast]
        exact hw
      unfold nx37_5_2 nx37_5_3 nx37_5_4 nx37_5_5 nx37_5_6 rn37_5_0 rn37_5_1 rn37_5_2 rn37_5_3
      rw [hn, hr, Int.toNat_natCast]
      by_cases hc : q1 es (i + 1) < q1 es (amN es i)
      · have e : amN es (i + 1) = i + 1 := by show (if _ then _ else _) = _; rw [if_pos hc]
        rw [decide_eq_true (by omega), e]
        rfl
      · have e : amN es (i + 1) = amN es i := by show (if _ then _ else _) = _; rw [if_neg hc]
        rw [decide_eq_false (by omega), e]
        rfl) (by
    show go37_5 tk es ((es.length - 1 + 1 : Nat) : Int) _ _ _ _ 0 0 0 0 = false
    unfold go37_5
    rw [decide_eq_false (by omega)]
    rfl)
  rw [show es.length - 1 + 1 = es.length by omega] at h
  exact h
theorem r37 (g : Good l es) (h0 : 0 < es.length) : vev37_0 tk es = q0 es (amN es (es.length - 1)) ∧ vev37_4 tk es = true := by
  have h := (ends37 (tk := tk) g h0).fin
  have h1 : rev37_0 tk es = ((es.length : Int), q0 es (amN es (es.length - 1)), q1 es (amN es (es.length - 1)), q2 es (amN es (es.length - 1)), q3 es (amN es (es.length - 1))) := h.2
  unfold vev37_0 vev37_4
  rw [h1]
  refine ⟨rfl, ?_⟩
  rw [decide_eq_false (show ¬ (es.length : Int) < 1 by omega), decide_eq_true (show (0 : Int) < (es.length : Int) by omega)]
  have h2 : (spI g37_5 n37_5 y37_5 z37_5 d37_5 ((tk, es, (0 : Int), (0 : Int), (0 : Int), (0 : Int)), (1 : Int), q0 es 0, q1 es 0, q2 es 0, q3 es 0)).fst = true := by
    simp only [spI]
    rw [h.2, h.1]
    unfold z37_5 xc37_5_0
    dsimp only
    rw [decide_eq_false (by omega)]
    rfl
  show (bif (spI g37_5 n37_5 y37_5 z37_5 d37_5 ((tk, es, (0 : Int), (0 : Int), (0 : Int), (0 : Int)), (1 : Int), q0 es 0, q1 es 0, q2 es 0, q3 es 0)).fst then true else false) = true
  rw [h2]
  rfl
end Go.Proofs.Gv
