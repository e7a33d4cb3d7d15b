/-
Runs of flows that always have work: who is served, and what each gets.
-/
import Derived.Test.YteomgnfnigflnaaGgTag
namespace Go.Proofs.Gv
open Go.Proofs
set_option linter.unusedVariables false
def eT (w s f k : Int) : List AV := [.int .i64 w, .int .i64 s, .int .i64 f, .int .i64 k]
/-- The first one of the least. -/
def Least (n : Nat) (S : Nat → Int) (t : Nat) : Prop := t < n ∧ (∀ j, j < n → S t ≤ S j) ∧ ∀ j, j < t → S t < S j
theorem Least.det {n : Nat} {S : Nat → Int} {t t' : Nat} (h : Least n S t) (h' : Least n S t') : t = t' := by
  obtain ⟨a1, a2, a3⟩ := h
  obtain ⟨b1, b2, b3⟩ := h'
  rcases Nat.lt_trichotomy t t' with h | h | h
  · have := b3 t h
    have := a2 t' b1
    omega
  · exact h
  · have := a3 t' h
    have := b2 t a1
    omega
theorem firstF_least (es : List (List AV)) (hn : 0 < es.length) : ∀ (l : List (List AV)) (i : Nat) (a : Int), l = es.drop i → i + l.length = es.length → (i = 0 ∧ a = -1 ∨ ∃ t : Nat, a = (t : Int) ∧ t < i ∧ (∀ j, j < i → gT (es.getD t []) 1 ≤ gT (es.getD j []) 1) ∧ ∀ j, j < t → gT (es.getD t []) 1 < gT (es.getD j []) 1) →
    ∃ t : Nat, firstF es i l a = (t : Int) ∧ Least es.length (fun j => gT (es.getD j []) 1) t := by
  intro l
  induction l with
  | nil =>
    intro i a hl hi ha
    rw [List.length_nil] at hi
    rcases ha with ⟨h, _⟩ | ⟨t, rfl, h1, h2, h3⟩
    · omega
    · exact ⟨t, rfl, by omega, fun j hj => h2 j (by omega), h3⟩
  | cons e l ih =>
    intro i a hl hi ha
    rw [List.length_cons] at hi
    have he : es.getD i [] = e := by
      have h0 : (es.drop i)[0]? = some e := by rw [← hl]; rfl
      rw [List.getElem?_drop] at h0
      simp only [Nat.add_zero] at h0
      simp [List.getD, h0]
    have hl' : l = es.drop (i + 1) := by
      rw [← List.drop_drop, ← hl]
      rfl
    refine ih (i + 1) _ hl' (by omega) (.inr ?_)
    unfold nextF
    rcases ha with ⟨rfl, rfl⟩ | ⟨t, rfl, h1, h2, h3⟩
    · exact ⟨0, rfl, by omega, fun j hj => by rw [show j = 0 by omega]; exact Int.le_refl _, fun j hj => by omega⟩
    · rw [decide_eq_false (show ¬ ((t : Int) < 0) by omega), cond_false, Int.toNat_natCast]
      by_cases hc : gT e 1 < gT (es.getD t []) 1
      · rw [decide_eq_true hc, cond_true]
        refine ⟨i, rfl, by omega, fun j hj => ?_, fun j hj => ?_⟩
        · rw [he]
          by_cases hj' : j = i
          · subst hj'; rw [he]; exact Int.le_refl _
          · have := h2 j (by omega); omega
        · rw [he]
          have := h2 j hj
          omega
      · rw [decide_eq_false hc, cond_false]
        refine ⟨t, rfl, by omega, fun j hj => ?_, h3⟩
        by_cases hj' : j = i
        · subst hj'; rw [he]; omega
        · exact h2 j (by omega)
theorem turn_least (es : List (List AV)) (hn : 0 < es.length) : ∃ t : Nat, turnF es = (t : Int) ∧ Least es.length (fun j => gT (es.getD j []) 1) t :=
  firstF_least es hn es 0 (-1) rfl (by omega) (.inl ⟨rfl, rfl⟩)
/-- What a unit of work counts. -/
def Cw (w : Int) : Int := 720720 / w
theorem Cw_spec {w : Int} (h : 1 ≤ w ∧ w ≤ 16) : w * Cw w = 720720 ∧ 45045 ≤ Cw w ∧ Cw w ≤ 720720 := by
  have hb' : w = 1 ∨ w = 2 ∨ w = 3 ∨ w = 4 ∨ w = 5 ∨ w = 6 ∨ w = 7 ∨ w = 8 ∨ w = 9 ∨ w = 10 ∨ w = 11 ∨ w = 12 ∨ w = 13 ∨ w = 14 ∨ w = 15 ∨ w = 16 := by omega
  rcases hb' with h | h | h | h | h | h | h | h | h | h | h | h | h | h | h | h <;> subst h <;> decide
theorem charge_of {c w : Int} (hw : 1 ≤ w ∧ w ≤ 16) (hc : 0 ≤ c ∧ c ≤ 65536) : vev9_0 c w = c * Cw w ∧ vev9_1 c w = 0 := by
  have ho : okC c w := ⟨by omega, hw⟩
  refine ⟨?_, by rw [t9_1, if_pos ho]⟩
  unfold vev9_0
  rw [tc, if_pos ho, Int.tdiv_eq_ediv_of_nonneg (show (0 : Int) ≤ 720720 by omega)]
  change IntKind.i64.wrap (c * IntKind.i64.wrap (Cw w)) = _
  obtain ⟨_, h1, h2⟩ := Cw_spec hw
  rw [wrapOf (Cw w) (by omega) (by omega)]
  have b1 : 0 ≤ c * Cw w := Int.mul_nonneg (by omega) (by omega)
  have b2 : c * Cw w ≤ 65536 * 720720 := Int.mul_le_mul (by omega) (by omega) (by omega) (by omega)
  rw [wrapOf _ (by omega) (by omega)]
theorem serve_of {w s f k c : Int} (hw : 1 ≤ w ∧ w ≤ 16) (hc : 1 ≤ c ∧ c ≤ 65536) (hs : 0 ≤ s ∧ s ≤ 4000000000000) (hf : 0 ≤ f ∧ f ≤ 2305843009213693952) (hk : 0 ≤ k ∧ k ≤ 5242880) :
    serve18 (eT w s f k) c = eT w (s + c * Cw w) (s + c * Cw w) (k + c) ∧ code18 (eT w s f k) c = 0 := by
  obtain ⟨h1, h2⟩ := charge_of hw (c := c) (by omega)
  have hT : okT w s f k := ⟨hw, by omega, by omega, hf⟩
  have hC : okC c w := ⟨by omega, hw⟩
  obtain ⟨_, c1, c2⟩ := Cw_spec hw
  have b1 : 0 ≤ c * Cw w := Int.mul_nonneg (by omega) (by omega)
  have b2 : c * Cw w ≤ 65536 * 720720 := Int.mul_le_mul (by omega) (by omega) (by omega) (by omega)
  have h3 : (bif decide (c > IntKind.i64.wrap ((1099511627776 : Int) - k)) then true else decide (vev9_0 c w > IntKind.i64.wrap ((2305843009213693952 : Int) - s))) = false := by
    rw [t7c hT hC, h1, decide_eq_true (show okS s k c (c * Cw w) from ⟨by omega, by omega⟩)]
    rfl
  have h4 : (vev15_0 w s f k != (0 : Int)) = false := by rw [t15, if_pos hT]; rfl
  have h5 : (vev9_1 c w != (0 : Int)) = false := by rw [h2]; rfl
  have e0 : gT (eT w s f k) 0 = w := rfl
  have e1 : gT (eT w s f k) 1 = s := rfl
  have e2 : gT (eT w s f k) 2 = f := rfl
  have e3 : gT (eT w s f k) 3 = k := rfl
  refine ⟨?_, ?_⟩
  · unfold serve18 vev7_1 vev7_2 vev7_3
    rw [e0, e1, e2, e3, h4, h5, h3]
    simp only [cond_false]
    rw [h1, wrapOf (s + c * Cw w) (by omega) (by omega), wrapOf (k + c) (by omega) (by omega)]
    rfl
  · unfold code18 vev7_4
    rw [e0, e1, e2, e3, h4, h5, h3]
    rfl
/-- Flows of weights W that began at b, and had work K. -/
structure Good (n : Nat) (W : Nat → Int) (b : Int) (K : Nat → Int) (es : List (List AV)) : Prop where
  len : es.length = n
  el : ∀ i, i < n → ∃ f, es.getD i [] = eT (W i) (b + K i * Cw (W i)) f (K i) ∧ 0 ≤ f ∧ f ≤ 2305843009213693952
def bump (K : Nat → Int) (t : Nat) (c : Int) : Nat → Int := fun i => if i = t then K i + c else K i
theorem prod_bound {k C M : Int} (hk : 0 ≤ k ∧ k ≤ M) (hM : M ≤ 5242880) (hC : 45045 ≤ C ∧ C ≤ 720720) : 0 ≤ k * C ∧ k * C ≤ 3780000000000 := by
  have b1 : 0 ≤ k * C := Int.mul_nonneg (by omega) (by omega)
  have b2 : k * C ≤ 5242880 * 720720 := Int.mul_le_mul (by omega) (by omega) (by omega) (by omega)
  omega
section
variable {n : Nat} {W : Nat → Int} {b : Int} {K : Nat → Int} {es : List (List AV)} {c M : Int}
theorem step_good (hn : 0 < n) (hW : ∀ i, 1 ≤ W i ∧ W i ≤ 16) (hb : 0 ≤ b ∧ b ≤ 4294967295) (hK : ∀ i, 0 ≤ K i ∧ K i ≤ M) (hM : M + c ≤ 5242880) (hc : 1 ≤ c ∧ c ≤ 65536) (h : Good n W b K es) :
    ∃ t, Least n (fun i => K i * Cw (W i)) t ∧ stepW18 es c = (t : Int) ∧ Good n W b (bump K t c) (stepE18 es c) := by
  obtain ⟨t, ht, hL⟩ := turn_least es (by rw [h.len]; exact hn)
  rw [h.len] at hL
  have hS : ∀ j, j < n → gT (es.getD j []) 1 = b + K j * Cw (W j) := fun j hj => by
    obtain ⟨f, hf, _⟩ := h.el j hj
    rw [hf]
    rfl
  obtain ⟨l1, l2, l3⟩ := hL
  have hL' : Least n (fun i => K i * Cw (W i)) t := by
    refine ⟨l1, fun j hj => ?_, fun j hj => ?_⟩
    · have := l2 j hj
      simp only [hS j hj, hS t l1] at this
      simp only
      omega
    · have := l3 j hj
      simp only [hS j (by omega), hS t l1] at this
      simp only
      omega
  obtain ⟨f, hf, f1, f2⟩ := h.el t l1
  have hCw := Cw_spec (hW t)
  have hp := prod_bound (hK t) (by omega) hCw.2
  obtain ⟨s1, s2⟩ := serve_of (w := W t) (s := b + K t * Cw (W t)) (f := f) (k := K t) (c := c) (hW t) hc (by omega) ⟨f1, f2⟩ (by have := hK t; omega)
  have hq : (code18 (es.getD (turnF es).toNat []) c != 0) = false := by
    rw [ht, Int.toNat_natCast, hf, s2]
    rfl
  refine ⟨t, hL', ?_, ?_, ?_⟩
  · unfold stepW18
    rw [hq, ht, decide_eq_true (show (t : Int) ≥ 0 by omega), decide_eq_true (show c > 0 by omega)]
    rfl
  · rw [stepE18_len, h.len]
  · intro i hi
    unfold stepE18
    rw [ht, decide_eq_true (show (t : Int) ≥ 0 by omega), decide_eq_true (show c > 0 by omega), Int.toNat_natCast, hf, s1]
    simp only [cond_true]
    by_cases he : i = t
    · subst he
      refine ⟨b + K i * Cw (W i) + c * Cw (W i), ?_, ?_, ?_⟩
      · unfold bump
        rw [if_pos rfl, Int.add_mul, ← Int.add_assoc]
        simp [List.getD, List.getElem?_set, h.len, hi]
      · have : 0 ≤ c * Cw (W i) := Int.mul_nonneg (by omega) (by omega)
        omega
      · have : c * Cw (W i) ≤ 65536 * 720720 := Int.mul_le_mul (by omega) (by omega) (by omega) (by omega)
        omega
    · obtain ⟨f', hf', g1, g2⟩ := h.el i hi
      refine ⟨f', ?_, g1, g2⟩
      unfold bump
      rw [if_neg he, ← hf']
      simp [List.getD, List.getElem?_set, Ne.symm he]
end
/-- Who is served, one behind the other. -/
def trail (K : Nat → Int) : List Nat → List (List AV) → Nat → Int
  | t :: ts, c :: cs => trail (bump K t (gT c 0)) ts cs
  | _, _ => K
/-- No flow is ahead of another one by more than its charge of a quantum. -/
def Tight (n : Nat) (W : Nat → Int) (q : Int) (K : Nat → Int) : Prop := ∀ i j, i < n → j < n → K i * Cw (W i) - K j * Cw (W j) ≤ q * Cw (W i)
theorem tight_bump {n : Nat} {W : Nat → Int} {q c : Int} {K : Nat → Int} {t : Nat} (hW : ∀ i, 1 ≤ W i ∧ W i ≤ 16) (hc : 1 ≤ c ∧ c ≤ q) (hL : Least n (fun i => K i * Cw (W i)) t) (h : Tight n W q K) : Tight n W q (bump K t c) := by
  intro i j hi hj
  have h0 := h i j hi hj
  have hl := hL.2.1 j hj
  simp only at hl
  have hCi := Cw_spec (hW i)
  have hCj := Cw_spec (hW j)
  have hct := Cw_spec (hW t)
  have e1 : c * Cw (W i) ≤ q * Cw (W i) := Int.mul_le_mul_of_nonneg_right hc.2 (by omega)
  have e2 : 0 ≤ c * Cw (W j) := Int.mul_nonneg (by omega) (by omega)
  have e3 : 0 ≤ c * Cw (W i) := Int.mul_nonneg (by omega) (by omega)
  unfold bump
  by_cases hit : i = t
  · subst hit
    rw [if_pos rfl]
    by_cases hjt : j = i
    · subst hjt
      rw [if_pos rfl]
      omega
    · rw [if_neg hjt, Int.add_mul]
      omega
  · rw [if_neg hit]
    by_cases hjt : j = t
    · subst hjt
      rw [if_pos rfl, Int.add_mul]
      omega
    · rw [if_neg hjt]
      exact h0
theorem bump_bound {K : Nat → Int} {M c : Int} {t : Nat} (hc : 1 ≤ c) (hK : ∀ i, 0 ≤ K i ∧ K i ≤ M) : ∀ i, (0 ≤ bump K t c i ∧ bump K t c i ≤ M + c) ∧ K i ≤ bump K t c i := by
  intro i
  have := hK i
  unfold bump
  split <;> omega
/-- Runs that begin at b, and at b', are alike. -/
theorem run_good {n : Nat} {W : Nat → Int} {b b' q : Int} (hn : 0 < n) (hW : ∀ i, 1 ≤ W i ∧ W i ≤ 16) (hb : 0 ≤ b ∧ b ≤ 4294967295) (hb' : 0 ≤ b' ∧ b' ≤ 4294967295) (hq : q ≤ 65536) :
    ∀ (cs : List (List AV)) (K : Nat → Int) (M : Int) (es es' : List (List AV)), (∀ x ∈ cs, 1 ≤ gT x 0 ∧ gT x 0 ≤ q) → (∀ i, 0 ≤ K i ∧ K i ≤ M) → M + cs.length * 65536 ≤ 5242880 → Tight n W q K → Good n W b K es → Good n W b' K es' →
      ∃ ts, ts.length = cs.length ∧ (∀ t ∈ ts, t < n) ∧ runW18 es cs = ts.map (fun t : Nat => [AV.int .i64 (t : Int)]) ∧ runW18 es' cs = ts.map (fun t : Nat => [AV.int .i64 (t : Int)]) ∧ Good n W b (trail K ts cs) (runE18 es cs) ∧ Good n W b' (trail K ts cs) (runE18 es' cs) ∧ Tight n W q (trail K ts cs) ∧ ∀ i, (0 ≤ trail K ts cs i ∧ trail K ts cs i ≤ M + cs.length * 65536) ∧ K i ≤ trail K ts cs i := by
  intro cs
  induction cs with
  | nil =>
    intro K M es es' _ hK hM hT h h'
    exact ⟨[], rfl, fun t ht => (by cases ht), rfl, rfl, h, h', hT, fun i => ⟨by simp only [trail, List.length_nil]; have := hK i; omega, by simp only [trail]; exact Int.le_refl _⟩⟩
  | cons c cs ih =>
    intro K M es es' hc hK hM hT h h'
    have hc0 := hc c List.mem_cons_self
    rw [List.length_cons] at hM
    obtain ⟨t, hL, hw, hg⟩ := step_good hn hW hb hK (by omega) (by omega) h (c := gT c 0)
    obtain ⟨t', hL', hw', hg'⟩ := step_good hn hW hb' hK (by omega) (by omega) h' (c := gT c 0)
    have := hL.det hL'
    subst this
    have hbb := bump_bound (t := t) hc0.1 hK
    obtain ⟨ts, i1, i2, i3, i4, i5, i6, i7, i8⟩ := ih (bump K t (gT c 0)) (M + 65536) _ _ (fun x hx => hc x (List.mem_cons_of_mem _ hx)) (fun i => by have := hbb i; omega) (by omega) (tight_bump hW hc0 hL hT) hg hg'
    refine ⟨t :: ts, by simp [i1], fun x hx => ?_, ?_, ?_, ?_, ?_, ?_, fun i => ?_⟩
    · rcases List.mem_cons.1 hx with h | h
      · subst h; exact hL.1
      · exact i2 x h
    · simp only [runW18, hw, i3, List.map_cons]
    · simp only [runW18, hw', i4, List.map_cons]
    · simpa only [runE18, trail] using i5
    · simpa only [runE18, trail] using i6
    · simpa only [trail] using i7
    · have := i8 i
      have := hbb i
      simp only [trail, List.length_cons]
      omega
theorem runE18_append : ∀ (a b es : List (List AV)), runE18 es (a ++ b) = runE18 (runE18 es a) b := by
  intro a
  induction a with
  | nil => intro b es; rfl
  | cons c a ih => intro b es; simp only [List.cons_append, runE18]; exact ih _ _
theorem okZa {w s f k : Int} : (vev15_0 w s f k != (0 : Int)) = !decide (okT w s f k) := by
  rw [t15]
  by_cases h : okT w s f k <;> simp [h]
theorem near_of {w1 w2 s1 s2 f1 f2 k1 k2 a b q : Int} (h1 : okT w1 s1 f1 k1) (h2 : okT w2 s2 f2 k2) (ha : 0 ≤ a ∧ a ≤ k1) (hb : 0 ≤ b ∧ b ≤ k2) (hq : 0 ≤ q ∧ q ≤ 65536) (hk1 : k1 ≤ 5242880) (hk2 : k2 ≤ 5242880)
    (h : (k1 - a) * w2 - (k2 - b) * w1 ≤ q * (w1 + w2)) (h' : (k2 - b) * w1 - (k1 - a) * w2 ≤ q * (w1 + w2)) : vev26_0 w1 s1 f1 k1 w2 s2 f2 k2 a b q = true := by
  unfold vev26_0
  have e1 : decide (0 ≤ q ∧ q ≤ 1099511627776) = true := decide_eq_true (by omega)
  rw [okZa, okZa, t28, t28, t28, decide_eq_true h1, decide_eq_true h2, e1, decide_eq_true ha, decide_eq_true hb]
  simp only [Bool.not_true, cond_false]
  obtain ⟨⟨p1, p2⟩, ⟨p3, p4⟩, _, _⟩ := h1
  obtain ⟨⟨p5, p6⟩, ⟨p7, p8⟩, _, _⟩ := h2
  have b1 : 0 ≤ (k1 - a) * w2 := Int.mul_nonneg (by omega) (by omega)
  have b2 : (k1 - a) * w2 ≤ 1099511627776 * 16 := Int.mul_le_mul (by omega) (by omega) (by omega) (by omega)
  have b3 : 0 ≤ (k2 - b) * w1 := Int.mul_nonneg (by omega) (by omega)
  have b4 : (k2 - b) * w1 ≤ 1099511627776 * 16 := Int.mul_le_mul (by omega) (by omega) (by omega) (by omega)
  have b5 : 0 ≤ q * (w1 + w2) := Int.mul_nonneg (by omega) (by omega)
  have b6 : q * (w1 + w2) ≤ 1099511627776 * 32 := Int.mul_le_mul (by omega) (by omega) (by omega) (by omega)
  rw [wrapOf (k1 - a) (by omega) (by omega), wrapOf (k2 - b) (by omega) (by omega), wrapOf (w1 + w2) (by omega) (by omega)]
  generalize (k1 - a) * w2 = X at *
  generalize (k2 - b) * w1 = Y at *
  generalize q * (w1 + w2) = Z at *
  rw [wrapOf X (by omega) (by omega), wrapOf Y (by omega) (by omega), wrapOf Z (by omega) (by omega), wrapOf (X - Y) (by omega) (by omega), wrapOf (0 - (X - Y)) (by omega) (by omega)]
  simp only [if_true]
  rw [decide_eq_true (by split <;> omega)]
/-- What was done for two is near by their weights. -/
theorem weigh_of {w1 w2 X Y q C1 C2 : Int} (e1 : w1 * C1 = 720720) (e2 : w2 * C2 = 720720) (h1 : 1 ≤ w1) (h2 : 1 ≤ w2) (h : X * C1 - Y * C2 ≤ q * C1 + q * C2) : X * w2 - Y * w1 ≤ q * (w1 + w2) := by
  have hp : 0 ≤ w1 * w2 := Int.mul_nonneg (by omega) (by omega)
  have h3 := Int.mul_le_mul_of_nonneg_left h hp
  have a1 : w1 * w2 * (X * C1 - Y * C2) = (X * w2) * (w1 * C1) - (Y * w1) * (w2 * C2) := by grind
  have a2 : w1 * w2 * (q * C1 + q * C2) = (q * w2) * (w1 * C1) + (q * w1) * (w2 * C2) := by grind
  rw [a1, a2, e1, e2] at h3
  rw [Int.mul_add]
  omega
end Go.Proofs.Gv
