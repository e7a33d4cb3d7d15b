/-
What tags and its document reckon of a tag is the same.
-/
import Derived.Test.YteomgnfnigflnaaGcTag
import Derived.Laws.BitsLemmas
namespace Go.Proofs.Gv
set_option linter.unusedVariables false
theorem t28 (n m : Int) : vev28_0 n m = decide (0 ≤ n ∧ n ≤ m) := by
  unfold vev28_0
  by_cases h1 : 0 ≤ n <;> by_cases h2 : n ≤ m <;> simp [h1, h2]
theorem t30 (n m : Int) : vev30_0 n m = decide (0 ≤ n ∧ n ≤ m) := by
  unfold vev30_0
  by_cases h1 : 0 ≤ n <;> by_cases h2 : n ≤ m <;> simp [h1, h2]
theorem t29 (n : Int) : vev29_0 n = decide (1 ≤ n ∧ n ≤ 16) := by
  unfold vev29_0
  have e : (n > 0) = (1 ≤ n) := propext ⟨fun h => by omega, fun h => by omega⟩
  simp only [e]
  by_cases h1 : 1 ≤ n <;> by_cases h2 : n ≤ 16 <;> simp [h1, h2]
def okT (w s f k : Int) : Prop := (1 ≤ w ∧ w ≤ 16) ∧ (0 ≤ k ∧ k ≤ 1099511627776) ∧ (0 ≤ s ∧ s ≤ 2305843009213693952) ∧ (0 ≤ f ∧ f ≤ 2305843009213693952)
instance (w s f k : Int) : Decidable (okT w s f k) := by unfold okT; infer_instance
theorem t15 (w s f k : Int) : vev15_0 w s f k = if okT w s f k then 0 else 8 := by
  unfold vev15_0
  rw [t29, t28, t28, t28]
  unfold okT
  by_cases h1 : 1 ≤ w ∧ w ≤ 16 <;> by_cases h2 : 0 ≤ k ∧ k ≤ 1099511627776 <;> by_cases h3 : 0 ≤ s ∧ s ≤ 2305843009213693952 <;> by_cases h4 : 0 ≤ f ∧ f ≤ 2305843009213693952 <;> simp [h1, h2, h3, h4]
theorem t16 (w s f k : Int) : vev16_0 w s f k = if okT w s f k then 0 else 8 := by
  unfold vev16_0
  rw [t30, t30, t30]
  have e1 : (bif decide (w < (1 : Int)) then true else bif decide (w > (16 : Int)) then true else bif !decide (0 ≤ k ∧ k ≤ 1099511627776) then true else bif !decide (0 ≤ s ∧ s ≤ 2305843009213693952) then true else !decide (0 ≤ f ∧ f ≤ 2305843009213693952)) = !decide (okT w s f k) := by
    unfold okT
    by_cases h1 : w < 1
    · have : ¬ (1 ≤ w) := by omega
      simp [h1, this]
    · by_cases h2 : w > 16
      · have : ¬ (w ≤ 16) := by omega
        simp [h1, h2, this]
      · have a1 : 1 ≤ w := by omega
        have a2 : w ≤ 16 := by omega
        by_cases h2' : 0 ≤ k ∧ k ≤ 1099511627776 <;> by_cases h3 : 0 ≤ s ∧ s ≤ 2305843009213693952 <;> by_cases h4 : 0 ≤ f ∧ f ≤ 2305843009213693952 <;> simp [h1, h2, a1, a2, h2', h3, h4]
  rw [e1]
  by_cases h : okT w s f k <;> simp [h]
theorem wrapOf (x : Int) (h0 : -9223372036854775808 ≤ x) (h1 : x ≤ 9223372036854775807) : IntKind.i64.wrap x = x := by
  rw [IntKind.wrap_i64]; omega
theorem tCharge (c b : Int) (hb : 1 ≤ b ∧ b ≤ 16) (hc : 0 ≤ c ∧ c ≤ 1099511627776) : IntKind.i64.wrap (c * IntKind.i64.wrap (Int.tdiv 720720 b)) = IntKind.i64.wrap ((IntKind.i64.wrap (c * 720720)).tdiv b) ∧ 0 ≤ IntKind.i64.wrap (c * IntKind.i64.wrap (Int.tdiv 720720 b)) ∧ IntKind.i64.wrap (c * IntKind.i64.wrap (Int.tdiv 720720 b)) ≤ 1099511627776 * 720720 := by
  rw [wrapOf (c * 720720) (by omega) (by omega)]
  have hb' : b = 1 ∨ b = 2 ∨ b = 3 ∨ b = 4 ∨ b = 5 ∨ b = 6 ∨ b = 7 ∨ b = 8 ∨ b = 9 ∨ b = 10 ∨ b = 11 ∨ b = 12 ∨ b = 13 ∨ b = 14 ∨ b = 15 ∨ b = 16 := by omega
  rw [Int.tdiv_eq_ediv_of_nonneg (show (0 : Int) ≤ 720720 by omega), Int.tdiv_eq_ediv_of_nonneg (show (0 : Int) ≤ c * 720720 by omega)]
  rcases hb' with h | h | h | h | h | h | h | h | h | h | h | h | h | h | h | h <;> subst h
  · rw [show IntKind.i64.wrap ((720720 : Int) / 1) = 720720 from by decide, wrapOf (c * 720720) (by omega) (by omega), wrapOf (c * 720720 / 1) (by omega) (by omega)]; omega
  · rw [show IntKind.i64.wrap ((720720 : Int) / 2) = 360360 from by decide, wrapOf (c * 360360) (by omega) (by omega), wrapOf (c * 720720 / 2) (by omega) (by omega)]; omega
  · rw [show IntKind.i64.wrap ((720720 : Int) / 3) = 240240 from by decide, wrapOf (c * 240240) (by omega) (by omega), wrapOf (c * 720720 / 3) (by omega) (by omega)]; omega
  · rw [show IntKind.i64.wrap ((720720 : Int) / 4) = 180180 from by decide, wrapOf (c * 180180) (by omega) (by omega), wrapOf (c * 720720 / 4) (by omega) (by omega)]; omega
  · rw [show IntKind.i64.wrap ((720720 : Int) / 5) = 144144 from by decide, wrapOf (c * 144144) (by omega) (by omega), wrapOf (c * 720720 / 5) (by omega) (by omega)]; omega
  · rw [show IntKind.i64.wrap ((720720 : Int) / 6) = 120120 from by decide, wrapOf (c * 120120) (by omega) (by omega), wrapOf (c * 720720 / 6) (by omega) (by omega)]; omega
  · rw [show IntKind.i64.wrap ((720720 : Int) / 7) = 102960 from by decide, wrapOf (c * 102960) (by omega) (by omega), wrapOf (c * 720720 / 7) (by omega) (by omega)]; omega
  · rw [show IntKind.i64.wrap ((720720 : Int) / 8) = 90090 from by decide, wrapOf (c * 90090) (by omega) (by omega), wrapOf (c * 720720 / 8) (by omega) (by omega)]; omega
  · rw [show IntKind.i64.wrap ((720720 : Int) / 9) = 80080 from by decide, wrapOf (c * 80080) (by omega) (by omega), wrapOf (c * 720720 / 9) (by omega) (by omega)]; omega
  · rw [show IntKind.i64.wrap ((720720 : Int) / 10) = 72072 from by decide, wrapOf (c * 72072) (by omega) (by omega), wrapOf (c * 720720 / 10) (by omega) (by omega)]; omega
  · rw [show IntKind.i64.wrap ((720720 : Int) / 11) = 65520 from by decide, wrapOf (c * 65520) (by omega) (by omega), wrapOf (c * 720720 / 11) (by omega) (by omega)]; omega
  · rw [show IntKind.i64.wrap ((720720 : Int) / 12) = 60060 from by decide, wrapOf (c * 60060) (by omega) (by omega), wrapOf (c * 720720 / 12) (by omega) (by omega)]; omega
  · rw [show IntKind.i64.wrap ((720720 : Int) / 13) = 55440 from by decide, wrapOf (c * 55440) (by omega) (by omega), wrapOf (c * 720720 / 13) (by omega) (by omega)]; omega
  · rw [show IntKind.i64.wrap ((720720 : Int) / 14) = 51480 from by decide, wrapOf (c * 51480) (by omega) (by omega), wrapOf (c * 720720 / 14) (by omega) (by omega)]; omega
  · rw [show IntKind.i64.wrap ((720720 : Int) / 15) = 48048 from by decide, wrapOf (c * 48048) (by omega) (by omega), wrapOf (c * 720720 / 15) (by omega) (by omega)]; omega
  · rw [show IntKind.i64.wrap ((720720 : Int) / 16) = 45045 from by decide, wrapOf (c * 45045) (by omega) (by omega), wrapOf (c * 720720 / 16) (by omega) (by omega)]; omega
def okC (c b : Int) : Prop := (0 ≤ c ∧ c ≤ 1099511627776) ∧ 1 ≤ b ∧ b ≤ 16
instance (c b : Int) : Decidable (okC c b) := by unfold okC; infer_instance
theorem tc (c b : Int) {α : Type} (x y : α) : (bif bif !vev28_0 c (1099511627776 : Int) then true else !vev29_0 b then x else y) = if okC c b then y else x := by
  rw [t28, t29]
  unfold okC
  by_cases h1 : 0 ≤ c ∧ c ≤ 1099511627776 <;> by_cases h2 : 1 ≤ b ∧ b ≤ 16 <;> simp [h1, h2]
theorem td (c b : Int) {α : Type} (x y : α) : (bif bif !vev30_0 c (1099511627776 : Int) then true else bif decide (b < (1 : Int)) then true else decide (b > (16 : Int)) then x else y) = if okC c b then y else x := by
  rw [t30]
  unfold okC
  by_cases h1 : 0 ≤ c ∧ c ≤ 1099511627776 <;> by_cases h2 : b < 1 <;> by_cases h3 : b > 16 <;> simp [h1, h2, h3] <;> omega
theorem t9_0 (c b : Int) : vev9_0 c b = vev10_0 c b := by
  unfold vev9_0 vev10_0
  rw [tc, td]
  split
  · rename_i h; exact (tCharge c b h.2 h.1).1
  · rfl
theorem t9_b (c b : Int) : 0 ≤ vev9_0 c b ∧ vev9_0 c b ≤ 1099511627776 * 720720 := by
  unfold vev9_0
  rw [tc]
  split
  · rename_i h; exact (tCharge c b h.2 h.1).2
  · omega
theorem t9_1 (c b : Int) : vev9_1 c b = if okC c b then 0 else 8 := by
  unfold vev9_1
  rw [tc]
theorem t10_1 (c b : Int) : vev10_1 c b = if okC c b then 0 else 8 := by
  unfold vev10_1
  rw [td]
theorem tb {b : Int} (h : 1 ≤ b) : (!b == (0 : Int)) = true := by
  have : (b == 0) = false := by simp; omega
  rw [this]; rfl
theorem t9_2 (c b : Int) : vev9_2 c b = true := by
  unfold vev9_2
  rw [tc]
  split
  · rename_i h; rw [tb h.2.1]; rfl
  · rfl
theorem t10_2 (c b : Int) : vev10_2 c b = true := by
  unfold vev10_2
  rw [td]
  split
  · rename_i h; rw [tb h.2.1]; rfl
  · rfl
/-- Does a service go through? -/
def okS (s k c x : Int) : Prop := k + c ≤ 1099511627776 ∧ s + x ≤ 2305843009213693952
instance (s k c x : Int) : Decidable (okS s k c x) := by unfold okS; infer_instance
theorem t7c {w s f k c : Int} (h : okT w s f k) (hc : okC c w) : (bif decide (c > IntKind.i64.wrap ((1099511627776 : Int) - k)) then true else decide (vev9_0 c w > IntKind.i64.wrap ((2305843009213693952 : Int) - s))) = !decide (okS s k c (vev9_0 c w)) := by
  obtain ⟨h1, h2, h3, h4⟩ := h
  have hx := t9_b c w
  rw [wrapOf _ (by omega) (by omega), wrapOf _ (by omega) (by omega)]
  unfold okS
  by_cases e1 : c > 1099511627776 - k
  · have : ¬ (k + c ≤ 1099511627776) := by omega
    simp [e1, this]
  · have e1' : k + c ≤ 1099511627776 := by omega
    by_cases e2 : vev9_0 c w > 2305843009213693952 - s
    · have : ¬ (s + vev9_0 c w ≤ 2305843009213693952) := by omega
      simp [e1, e2, this]
    · have : (s + vev9_0 c w ≤ 2305843009213693952) := by omega
      simp [e1, e2, this, e1']
theorem t8c {w s f k c : Int} (h : okT w s f k) (hc : okC c w) : (bif decide (IntKind.i64.wrap (k + c) > (1099511627776 : Int)) then true else decide (IntKind.i64.wrap (s + vev9_0 c w) > (2305843009213693952 : Int))) = !decide (okS s k c (vev9_0 c w)) := by
  obtain ⟨h1, h2, h3, h4⟩ := h
  obtain ⟨h5, h6⟩ := hc
  have hx := t9_b c w
  rw [wrapOf _ (by omega) (by omega), wrapOf _ (by omega) (by omega)]
  unfold okS
  by_cases e1 : k + c > 1099511627776
  · have : ¬ (k + c ≤ 1099511627776) := by omega
    simp [e1, this]
  · have e1' : k + c ≤ 1099511627776 := by omega
    by_cases e2 : s + vev9_0 c w > 2305843009213693952
    · have : ¬ (s + vev9_0 c w ≤ 2305843009213693952) := by omega
      simp [e1, e2, this]
    · have : (s + vev9_0 c w ≤ 2305843009213693952) := by omega
      simp [e1, e2, this, e1']
theorem ne80 : ((8 : Int) != 0) = true := rfl
theorem ne00 : ((0 : Int) != 0) = false := rfl
theorem sv (v w s f k c : Int) {α : Type} (x1 x2 x3 x4 : α) :
    (bif vev15_0 w s f k != (0 : Int) then x1 else bif vev9_1 c w != (0 : Int) then x2 else bif bif decide (c > IntKind.i64.wrap ((1099511627776 : Int) - k)) then true else decide (vev9_0 c w > IntKind.i64.wrap ((2305843009213693952 : Int) - s)) then x3 else x4) =
    (bif vev16_0 w s f k != (0 : Int) then x1 else bif vev10_1 c w != (0 : Int) then x2 else bif bif decide (IntKind.i64.wrap (k + c) > (1099511627776 : Int)) then true else decide (IntKind.i64.wrap (s + vev10_0 c w) > (2305843009213693952 : Int)) then x3 else x4) := by
  rw [t15, t16, t9_1, t10_1, ← t9_0]
  by_cases h : okT w s f k
  · rw [if_pos h]
    by_cases hc : okC c w
    · rw [if_pos hc, t7c h hc, t8c h hc]
    · rw [if_neg hc]; rfl
  · rw [if_neg h]; rfl
theorem t7_0 (v w s f k c : Int) : vev7_0 v w s f k c = vev8_0 v w s f k c := by unfold vev7_0 vev8_0; exact sv v w s f k c _ _ _ _
theorem t7_1 (v w s f k c : Int) : vev7_1 v w s f k c = vev8_1 v w s f k c := by unfold vev7_1 vev8_1; rw [sv v w s f k c, t9_0]
theorem t7_2 (v w s f k c : Int) : vev7_2 v w s f k c = vev8_2 v w s f k c := by unfold vev7_2 vev8_2; rw [sv v w s f k c, t9_0]
theorem t7_3 (v w s f k c : Int) : vev7_3 v w s f k c = vev8_3 v w s f k c := by unfold vev7_3 vev8_3; exact sv v w s f k c _ _ _ _
theorem t7_4 (v w s f k c : Int) : vev7_4 v w s f k c = vev8_4 v w s f k c := by unfold vev7_4 vev8_4; rw [sv v w s f k c, t15, t16, t9_1, t10_1]
theorem t7_5 (v w s f k c : Int) : vev7_5 v w s f k c = true := by
  unfold vev7_5
  rw [t9_2]
  cases vev15_0 w s f k != (0 : Int) <;> rfl
theorem t8_5 (v w s f k c : Int) : vev8_5 v w s f k c = true := by
  unfold vev8_5
  rw [t10_2]
  cases vev16_0 w s f k != (0 : Int) <;> rfl
theorem t15_16 (w s f k : Int) : vev15_0 w s f k = vev16_0 w s f k := by rw [t15, t16]
theorem t9_10 (c b : Int) : vev9_1 c b = vev10_1 c b := by rw [t9_1, t10_1]
theorem tn (b : Int) : vev29_0 b = decide (okT b 0 0 0) := by
  rw [t29]
  unfold okT
  by_cases h : 1 ≤ b ∧ b ≤ 16 <;> simp [h]
theorem t11_0 (b : Int) : vev11_0 b = vev12_0 b := by
  unfold vev11_0 vev12_0
  rw [tn, t16]
  by_cases h : okT b 0 0 0 <;> simp [h]
theorem t11_1 (b : Int) : vev11_1 b = vev12_1 b := by
  unfold vev11_1 vev12_1
  rw [tn, t16]
  by_cases h : okT b 0 0 0 <;> simp [h]
theorem t13 (v w s f k : Int) : vev13_0 v w s f k = vev14_0 v w s f k := by
  unfold vev13_0 vev14_0
  rw [t15, t16, t28, t30]
  simp only [if_true]
  by_cases h : okT w s f k
  · by_cases h2 : 0 ≤ v ∧ v ≤ 2305843009213693952
    · simp [h, h2]
      by_cases h3 : f < v
      · have : ¬ v < f := by omega
        simp [h3, this]
      · by_cases h4 : v < f
        · simp [h3, h4]
        · have : f = v := by omega
          subst this
          simp
    · simp [h, h2]
  · simp [h]
end Go.Proofs.Gv
