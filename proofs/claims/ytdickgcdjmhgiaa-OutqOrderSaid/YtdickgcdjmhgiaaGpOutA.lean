/-
What outq and its document tell of a queue is the same.
-/
import Derived.Test.YtdickgcdjmhgiaaGdOut
namespace Go.Proofs.Gv
set_option linter.unusedVariables false
section
variable {es es2 : List (List AV)} {a b a2 b2 : Int}
theorem o16 (h : es.length ≤ 9223372036854775807) : vev16_1 es a b = true := by
  unfold vev16_1; simp only [sp16L, decide_eq_true h, decide_true, Bool.and_self, cond_true]
theorem o17 (h : es.length ≤ 9223372036854775807) : vev17_1 es a b = true := by
  unfold vev17_1; simp only [sp17L, decide_eq_true h, decide_true, Bool.and_self, cond_true]
theorem o22 (h : es.length ≤ 9223372036854775807) (x : List UInt8) : vev22_1 es x = true := by
  unfold vev22_1 vev27_1; simp only [sp27L, decide_eq_true h, decide_true, Bool.and_self, cond_true]
theorem o25 (h : es.length ≤ 9223372036854775807) : vev25_1 es es2 = true := by
  unfold vev25_1
  by_cases hl : es.length = es2.length
  · simp only [sp25L, decide_eq_true h, hl, decide_true, Bool.and_self, cond_true, bne_self_eq_false, cond_false]
    simp only [← hl, decide_eq_true h, Bool.and_self, cond_true]
  · have : ((es.length : Int) != (es2.length : Int)) = true := by rw [bne_iff_ne]; omega
    rw [this, cond_true]
theorem o14 (h : es.length ≤ 9223372036854775807) : vev14_1 es a b = true := by
  unfold vev14_1; rw [o16 h, o22 h]; rfl
theorem o15 (h : es.length ≤ 9223372036854775807) : vev15_1 es a b = true := by
  unfold vev15_1; rw [o17 h]; simp only [sp15L, decide_eq_true h, cond_true, Bool.cond_self]
theorem o18 (h : es.length ≤ 9223372036854775807) : vev18_1 es a b = true := by
  unfold vev18_1; rw [o14 h, o16 h]; simp only [cond_true, Bool.cond_self]
theorem o19 (h : es.length ≤ 9223372036854775807) : vev19_1 es a b = true := by
  unfold vev19_1; rw [o15 h, o17 h]; simp only [cond_true, Bool.cond_self]
theorem o20 (h : es.length ≤ 9223372036854775807) : vev20_1 es a b es2 a2 b2 = true := by
  unfold vev20_1; rw [o25 h]; simp only [cond_true, Bool.cond_self]
theorem o13 (h : es.length ≤ 9223372036854775807) : vev13_1 es a b es2 a2 b2 = true := by
  unfold vev13_1
  by_cases hl : es.length = es2.length
  · simp only [sp13L, decide_eq_true h, hl, decide_true, Bool.and_self, cond_true, Bool.cond_self]
    simp only [← hl, decide_eq_true h, Bool.and_self, cond_true, Bool.cond_self]
  · have : ((es.length : Int) != (es2.length : Int)) = true := by rw [bne_iff_ne]; omega
    rw [this]
    simp only [Bool.cond_self, cond_true]
theorem o7 (h : es.length ≤ 9223372036854775807) : vev7_1 es a b = true := by
  unfold vev7_1; simp only [sp7L, decide_eq_true h, cond_true]
theorem e16 : vev16_0 es a b = vev17_0 es a b := rfl
theorem sum0 : vev17_0 es a b = sumW 0 es := rfl
theorem e22 : vev22_0 es (ByteArray.mk #[]).data.toList = emptyS es := by
  unfold vev22_0 vev27_0
  have hd : List.drop (nat_lit 0) es = es := rfl
  rw [hd]
  have : hasS (ByteArray.mk #[]).data.toList es = emptyS es := by
    unfold hasS emptyS
    congr 1
    funext e
    rw [Bool.beq_comm]
  rw [this]
  cases emptyS es with
  | true =>
    rw [cond_true, decide_eq_true_eq]
    exact Int.natCast_nonneg _
  | false => rfl
theorem sum_le : ∀ (l : List (List AV)) (n : Int), bigS l = false → 0 ≤ n → n + 70000 * (l.length : Int) ≤ 4611686018427387904 → 0 ≤ sumW n l ∧ sumW n l ≤ n + 70000 * (l.length : Int) := by
  intro l
  induction l with
  | nil => intro n _ h _; exact ⟨h, by simp [sumW]⟩
  | cons e l ih =>
    intro n hb h0 hm
    unfold bigS at hb
    rw [List.any_cons, Bool.or_eq_false_iff, decide_eq_false_iff_not] at hb
    obtain ⟨h1, h2⟩ := hb
    rw [List.length_cons] at hm ⊢
    have hw : IntKind.i64.wrap (n + ((gS e).length : Int)) = n + ((gS e).length : Int) := by rw [IntKind.wrap_i64]; omega
    unfold sumW
    rw [hw]
    have := ih (n + ((gS e).length : Int)) h2 (by omega) (by omega)
    omega
theorem light (h : vev7_0 es a b = true) : bigS es = false ∧ es.length ≤ 20 := by
  unfold vev7_0 at h
  have hd : List.drop (nat_lit 0) es = es := rfl
  rw [hd] at h
  cases hb : bigS es with
  | true => rw [hb] at h; cases h
  | false =>
    rw [hb, cond_false, decide_eq_true_eq] at h
    exact ⟨rfl, by omega⟩
theorem e14 (h : vev7_0 es a b = true) : vev14_0 es a b = vev15_0 es a b := by
  obtain ⟨h1, h2⟩ := light h
  have hs := sum_le es 0 h1 (Int.le_refl _) (by omega)
  unfold vev14_0 vev15_0
  rw [e22, e16, sum0]
  have hd : List.drop (nat_lit 0) es = es := rfl
  rw [hd]
  have h23 : ∀ n, vev24_0 n = vev23_0 n := fun n => rfl
  rw [h23, h23]
  cases emptyS es with
  | true => rfl
  | false =>
    simp only [cond_false]
    cases hq : decide (sumW 0 es > 65536) with
    | true => rfl
    | false =>
      simp only [cond_false]
      rw [decide_eq_false_iff_not] at hq
      cases ha : vev23_0 a with
      | false => rfl
      | true =>
        cases hb : vev23_0 b with
        | false => rfl
        | true =>
          have key : ∀ n, vev23_0 n = true → 0 ≤ n ∧ n ≤ 1099511627776 := by
            intro n hn
            unfold vev23_0 at hn
            by_cases k1 : n ≥ 0
            · by_cases k2 : n ≤ 1099511627776
              · exact ⟨k1, k2⟩
              · simp [k1, k2] at hn
            · simp [k1] at hn
          have ka := key a ha
          have kb := key b hb
          simp only [Bool.not_true, cond_false]
          have w1 : IntKind.i64.wrap (a - b) = a - b := by rw [IntKind.wrap_i64]; omega
          have w2 : IntKind.i64.wrap (b + sumW 0 es) = b + sumW 0 es := by rw [IntKind.wrap_i64]; omega
          rw [w1, w2]
          by_cases he : a = b + sumW 0 es
          · have e1 : (a - b != sumW 0 es) = false := by simp; omega
            have e2 : (a != b + sumW 0 es) = false := by simp; omega
            rw [e1, e2]
          · have e1 : (a - b != sumW 0 es) = true := by rw [bne_iff_ne]; omega
            have e2 : (a != b + sumW 0 es) = true := by rw [bne_iff_ne]; omega
            rw [e1, e2]
theorem e18 (h : vev7_0 es a b = true) : vev18_0 es a b = vev19_0 es a b := by
  unfold vev18_0 vev19_0
  rw [e14 h, e16]
theorem e20 (h : es.length ≤ 9223372036854775807) : vev20_0 es a b es2 a2 b2 = vev13_0 es a b es2 a2 b2 := by
  unfold vev20_0 vev13_0
  rw [o25 h]
  unfold vev25_0
  simp only [bne, cond_true]
  cases (a == a2) <;> cases (b == b2) <;> cases ((es.length : Int) == (es2.length : Int)) <;> rfl
end
end Go.Proofs.Gv
