/-
Aging: the document's searches are the program's.
-/
import Derived.Test.YtgaadhlneglidaaGpAgA
namespace Go.Proofs.Gv
open Go.Proofs
set_option linter.unusedVariables false
variable {tk tk2 : Tk} {es es2 : List (List AV)} {l id : Int}
theorem r30 (a b c d : Int) : vev30_0 a b c d = vev28_0 a b c d := by
  unfold vev30_0 vev28_0 vev34_0
  have e : ∀ x y : Int, decide (x ≥ y) = decide (y ≤ x) := fun _ _ => rfl
  simp only [e]
  generalize decide (1 ≤ a) = c0
  generalize decide (a ≤ 2147483647) = c1
  generalize decide (0 ≤ b) = c2
  generalize decide (b ≤ 7) = c3
  generalize decide (1 ≤ c) = c4
  generalize decide (c ≤ 1099511627776) = c5
  generalize decide (0 ≤ d) = c6
  generalize decide (d ≤ 2000) = c7
  cases c0 <;> cases c1 <;> cases c2 <;> cases c3 <;> cases c4 <;> cases c5 <;> cases c6 <;> cases c7 <;> rfl
theorem ends31 (hN : es.length ≤ 1000) : Ends (g31_2 (id, l, tk, es)) (n31_2 (id, l, tk, es)) (0 : Int) ((ff (fun i => q0 es i == id) es.length : Nat) : Int) := by
  refine Ends.first _ _ (fun i hi => ?_) (fun i hi => nxt i _ hi hN)
  show go31_2 id (i : Int) l tk es = _
  unfold go31_2
  rw [Int.toNat_natCast]
  by_cases h : i < es.length
  · rw [decide_eq_true (show (i : Int) < (es.length : Int) by omega), decide_eq_true h, decide_eq_true (show (0 : Int) ≤ (i : Int) by omega)]
    show (bif q0 es i == id then false else true) = _
    cases (q0 es i == id) <;> rfl
  · rw [decide_eq_false (show ¬ (i : Int) < (es.length : Int) by omega), decide_eq_false h]
    rfl
theorem r31 (hN : es.length ≤ 1000) : vev31_0 l tk es id = ix (fun i => q0 es i == id) es.length ∧ vev31_1 l tk es id = true := by
  have h := (ends31 (tk := tk) (id := id) (l := l) hN).fin
  have h0 := ff_le (fun i => q0 es i == id) es.length
  unfold vev31_0 vev31_1 rev31_0
  simp only [spI]
  rw [h.2, h.1]
  unfold y31_2 z31_2 xc31_2_0 xc31_2_1 ix
  dsimp only
  rw [Int.toNat_natCast]
  by_cases h2 : ff (fun i => q0 es i == id) es.length < es.length
  · have h3 := ff_hit h2
    rw [decide_eq_true (show ((ff (fun i => q0 es i == id) es.length : Nat) : Int) < (es.length : Int) by omega), decide_eq_true (show (0 : Int) ≤ ((ff (fun i => q0 es i == id) es.length : Nat) : Int) by omega), if_pos h2]
    have h4 : (intOf ((es.getD (ff (fun i => q0 es i == id) es.length) []).getD 0 AV.junk) == id) = true := h3
    simp only [h4]
    exact ⟨rfl, rfl⟩
  · rw [decide_eq_false (show ¬ ((ff (fun i => q0 es i == id) es.length : Nat) : Int) < (es.length : Int) by omega), if_neg h2]
    exact ⟨rfl, rfl⟩
theorem dup_ne {i : Nat} (hi : i < es.length) : (ix (fun j => q0 es j == q0 es i) es.length != (i : Int)) = dup es i := by
  unfold dup
  have h1 : ff (fun j => q0 es j == q0 es i) es.length ≤ i := by
    rcases Nat.lt_or_ge i (ff (fun j => q0 es j == q0 es i) es.length) with h | h
    · have := ff_miss h
      simp at this
    · exact h
  have h2 : ix (fun j => q0 es j == q0 es i) es.length = ((ff (fun j => q0 es j == q0 es i) es.length : Nat) : Int) := by
    unfold ix
    rw [if_pos (by omega)]
  rw [h2]
  rcases Nat.lt_or_ge (ff (fun j => q0 es j == q0 es i) es.length) i with h | h
  · rw [decide_eq_true (by omega)]
    simp
    omega
  · rw [decide_eq_false (by omega)]
    have : ff (fun j => q0 es j == q0 es i) es.length = i := by omega
    rw [this]
    simp
theorem ends25a (hN : es.length ≤ 1000) : Ends (g25_6 (l, tk, es)) (n25_6 (l, tk, es)) (0 : Int) ((ff (fun i => !vev28_0 (q0 es i) (q1 es i) (q2 es i) (q3 es i)) es.length : Nat) : Int) := by
  refine Ends.first _ _ (fun i hi => ?_) (fun i hi => nxt i _ hi hN)
  show go25_6 (i : Int) l tk es = _
  unfold go25_6
  rw [Int.toNat_natCast, r30]
  by_cases h : i < es.length
  · rw [decide_eq_true (show (i : Int) < (es.length : Int) by omega), decide_eq_true h, decide_eq_true (show (0 : Int) ≤ (i : Int) by omega)]
    show (bif !vev28_0 (q0 es i) (q1 es i) (q2 es i) (q3 es i) then false else true) = _
    cases (vev28_0 (q0 es i) (q1 es i) (q2 es i) (q3 es i)) <;> rfl
  · rw [decide_eq_false (show ¬ (i : Int) < (es.length : Int) by omega), decide_eq_false h]
    rfl
theorem ends25b (hN : es.length ≤ 1000) : Ends (g25_11 (l, tk, es)) (n25_11 (l, tk, es)) (0 : Int) ((ff (dup es) es.length : Nat) : Int) := by
  refine Ends.first _ _ (fun i hi => ?_) (fun i hi => nxt i _ hi hN)
  show go25_11 (i : Int) l tk es = _
  unfold go25_11 rn25_11_0
  rw [Int.toNat_natCast, (r31 hN).1, (r31 hN).2]
  by_cases h : i < es.length
  · rw [decide_eq_true (show (i : Int) < (es.length : Int) by omega), decide_eq_true h, decide_eq_true (show (0 : Int) ≤ (i : Int) by omega)]
    show (bif (ix (fun j => q0 es j == q0 es i) es.length != (i : Int)) then false else true) = _
    rw [dup_ne h]
    cases (dup es i) <;> rfl
  · rw [decide_eq_false (show ¬ (i : Int) < (es.length : Int) by omega), decide_eq_false h]
    rfl
theorem x25a (hN : es.length ≤ 1000) : xc25_6_0 (rev25_0 l tk es) l tk es = bad es ∧ (spI g25_6 n25_6 y25_6 z25_6 d25_6 ((l, tk, es), (0 : Int))).fst = true := by
  have h := (ends25a (tk := tk) (l := l) hN).fin
  have h0 := ff_le (fun i => !vev28_0 (q0 es i) (q1 es i) (q2 es i) (q3 es i)) es.length
  unfold rev25_0 bad
  simp only [spI]
  rw [h.2, h.1]
  unfold y25_6 z25_6 xc25_6_0 xc25_6_1
  dsimp only
  rw [Int.toNat_natCast, r30]
  by_cases h2 : ff (fun i => !vev28_0 (q0 es i) (q1 es i) (q2 es i) (q3 es i)) es.length < es.length
  · have h3 := ff_hit h2
    rw [decide_eq_true (show ((ff (fun i => !vev28_0 (q0 es i) (q1 es i) (q2 es i) (q3 es i)) es.length : Nat) : Int) < (es.length : Int) by omega), decide_eq_true (show (0 : Int) ≤ ((ff (fun i => !vev28_0 (q0 es i) (q1 es i) (q2 es i) (q3 es i)) es.length : Nat) : Int) by omega), decide_eq_true h2]
    generalize ff (fun i => !vev28_0 (q0 es i) (q1 es i) (q2 es i) (q3 es i)) es.length = k at h3
    have h4 : (!vev28_0 (intOf ((es.getD k []).getD 0 AV.junk)) (intOf ((es.getD k []).getD (0 + 1) AV.junk)) (intOf ((es.getD k []).getD (0 + 1 + 1) AV.junk)) (intOf ((es.getD k []).getD (0 + 1 + 1 + 1) AV.junk))) = true := h3
    simp only [h4]
    exact ⟨rfl, rfl⟩
  · rw [decide_eq_false (show ¬ ((ff (fun i => !vev28_0 (q0 es i) (q1 es i) (q2 es i) (q3 es i)) es.length : Nat) : Int) < (es.length : Int) by omega), decide_eq_false h2]
    exact ⟨rfl, rfl⟩
theorem x25b (hN : es.length ≤ 1000) : xc25_11_0 (rev25_1 l tk es) l tk es = decide (ff (dup es) es.length < es.length) ∧ (spI g25_11 n25_11 y25_11 z25_11 d25_11 ((l, tk, es), (0 : Int))).fst = true := by
  have h := (ends25b (tk := tk) (l := l) hN).fin
  have h0 := ff_le (dup es) es.length
  unfold rev25_1
  simp only [spI]
  rw [h.2, h.1]
  unfold y25_11 z25_11 xc25_11_0 xc25_11_1 rn25_11_0
  dsimp only
  rw [Int.toNat_natCast, (r31 hN).1, (r31 hN).2]
  by_cases h2 : ff (dup es) es.length < es.length
  · have h3 := ff_hit h2
    rw [decide_eq_true (show ((ff (dup es) es.length : Nat) : Int) < (es.length : Int) by omega), decide_eq_true (show (0 : Int) ≤ ((ff (dup es) es.length : Nat) : Int) by omega), decide_eq_true h2]
    rw [← dup_ne h2] at h3
    have h4 : (ix (fun j => q0 es j == intOf ((es.getD (ff (dup es) es.length) []).getD 0 AV.junk)) es.length != ((ff (dup es) es.length : Nat) : Int)) = true := h3
    rw [h4]
    exact ⟨rfl, rfl⟩
  · rw [decide_eq_false (show ¬ ((ff (dup es) es.length : Nat) : Int) < (es.length : Int) by omega), decide_eq_false h2]
    exact ⟨rfl, rfl⟩
theorem lim_eq (l : Int) : (bif decide (l < 1) then true else decide (l > 1000)) = !vev34_0 l 1 1000 := by
  unfold vev34_0
  rw [show decide (l < 1) = !decide (1 ≤ l) by rw [← decide_not]; exact decide_eq_decide.2 (by omega), show decide (l > 1000) = !decide (l ≤ 1000) by rw [← decide_not]; exact decide_eq_decide.2 (by omega)]
  cases decide (1 ≤ l) <;> cases decide (l ≤ 1000) <;> rfl
theorem r25 (hN : es.length ≤ 1000) : vev25_0 l tk es = chk l es ∧ vev25_1 l tk es = true := by
  unfold vev25_0 vev25_1 chk
  rw [(x25a hN).1, (x25a hN).2, (x25b hN).1, (x25b hN).2, lim_eq, show decide ((es.length : Int) > 16) = decide (16 < es.length) from decide_eq_decide.2 (by omega)]
  cases vev34_0 l 1 1000 <;> cases decide (16 < es.length) <;> cases bad es <;> exact ⟨rfl, rfl⟩
theorem r19 : vev19_0 l = vev18_0 l ∧ vev19_1 l = vev18_1 l := by
  unfold vev19_0 vev19_1 vev18_0 vev18_1 vev25n_0
  rw [lim_eq]
  cases vev34_0 l 1 1000 <;> exact ⟨rfl, rfl⟩
end Go.Proofs.Gv
