/-
The plain law of TagsRuns: both sides run alike.
-/
import Derived.Test.YteomgnfnigflnaaGcRunL
import Derived.Test.YteomgnfnigflnaaGwA
namespace Go.Proofs.Gv
open Go.Proofs
set_option linter.unusedVariables false
/-- Tags of the right kinds. -/
def FitL (es : List (List AV)) : Prop := ∀ x ∈ es, fitT x = x
theorem fit_of {x : List AV} (h : okKL [.int .i64, .int .i64, .int .i64, .int .i64] x) : fitT x = x := by
  simp only [okKL, okK] at h
  obtain ⟨_, _, rfl, ⟨a, rfl, _⟩, _, _, rfl, ⟨b, rfl, _⟩, _, _, rfl, ⟨c, rfl, _⟩, _, _, rfl, ⟨d, rfl, _⟩, rfl⟩ := h
  rfl
theorem map_fit {es : List (List AV)} (h : FitL es) : es.map fitT = es := by
  conv => rhs; rw [← List.map_id es]
  exact List.map_congr_left fun x hx => h x hx
theorem r19 {es : List (List AV)} (h : FitL es) : vev19_0 es = es := by
  unfold vev19_0
  exact map_fit h
theorem r22 {es : List (List AV)} (h : FitL es) : vev22_0 es = es := by
  unfold vev22_0
  exact map_fit h
theorem set_self (es : List (List AV)) (n : Nat) (h : n < es.length) : es.set n (es.getD n []) = es := by
  apply List.ext_getElem
  · simp
  · intro i h1 h2
    rw [List.getElem_set]
    split
    · rename_i he
      subst he
      simp [List.getD, h]
    · rfl
theorem code_same (e : List AV) (c : Int) : code18 e c = code20 e c := by unfold code18 code20; rw [t7_4]
theorem serve_same (e : List AV) (c : Int) : serve18 e c = serve20 e c := by unfold serve18 serve20; rw [t7_1, t7_2, t7_3]
theorem serve_code {e : List AV} {c : Int} (h : (code18 e c != 0) = true) : serve18 e c = fitT e := by
  unfold code18 vev7_4 at h
  unfold serve18 vev7_1 vev7_2 vev7_3 fitT
  cases h1 : (vev15_0 (gT e 0) (gT e 1) (gT e 2) (gT e 3) != (0 : Int)) with
  | true => rfl
  | false =>
    rw [h1, cond_false] at h
    cases h2 : (vev9_1 c (gT e 0) != (0 : Int)) with
    | true => rfl
    | false =>
      rw [h2, cond_false] at h
      cases h3 : (bif decide (c > IntKind.i64.wrap ((1099511627776 : Int) - gT e 3)) then true else decide (vev9_0 c (gT e 0) > IntKind.i64.wrap ((2305843009213693952 : Int) - gT e 1))) with
      | true => rfl
      | false => rw [h3] at h; cases h
theorem step_same {es : List (List AV)} (h : FitL es) (c : Int) : stepE18 es c = stepE20 es c ∧ stepW18 es c = stepW20 es c ∧ FitL (stepE20 es c) := by
  have hlt := turn_lt es
  unfold stepE18 stepE20 stepW18 stepW20
  by_cases hA : turnF es < 0
  · rw [decide_eq_true hA, decide_eq_false (show ¬ turnF es ≥ 0 by omega)]
    exact ⟨rfl, rfl, h⟩
  · rw [decide_eq_false hA, decide_eq_true (show turnF es ≥ 0 by omega)]
    by_cases hC : c < 1
    · rw [decide_eq_true hC, decide_eq_false (show ¬ c > 0 by omega)]
      exact ⟨rfl, rfl, h⟩
    · rw [decide_eq_false hC, decide_eq_true (show c > 0 by omega)]
      have hn : (turnF es).toNat < es.length := by omega
      have hm : es.getD (turnF es).toNat [] ∈ es := by
        simp [List.getD, hn]
      rw [← code_same]
      cases hq : (code18 (es.getD (turnF es).toNat []) c != 0) with
      | true =>
        simp only [cond_true, cond_false]
        rw [serve_code hq, h _ hm, set_self es _ hn]
        exact ⟨rfl, trivial, h⟩
      | false =>
        simp only [cond_true, cond_false]
        rw [serve_same]
        refine ⟨rfl, trivial, fun x hx => ?_⟩
        rcases List.mem_or_eq_of_mem_set hx with hx | hx
        · exact h x hx
        · subst hx; rfl
theorem run_same : ∀ (cs es : List (List AV)), FitL es → runE18 es cs = runE20 es cs ∧ runW18 es cs = runW20 es cs ∧ FitL (runE20 es cs) := by
  intro cs
  induction cs with
  | nil => intro es h; exact ⟨rfl, rfl, h⟩
  | cons c cs ih =>
    intro es h
    obtain ⟨h1, h2, h3⟩ := step_same h (gT c 0)
    simp only [runE18, runE20, runW18, runW20]
    rw [h1, h2]
    obtain ⟨h4, h5, h6⟩ := ih _ h3
    exact ⟨h4, by rw [h5], h6⟩
theorem runE_len : ∀ (cs es : List (List AV)), (runE20 es cs).length = es.length := by
  intro cs
  induction cs with
  | nil => intro es; rfl
  | cons c cs ih => intro es; simp only [runE20]; rw [ih, stepE20_len]
theorem runW_len : ∀ (cs es : List (List AV)), (runW20 es cs).length = cs.length := by
  intro cs
  induction cs with
  | nil => intro es; rfl
  | cons c cs ih => intro es; simp only [runW20, List.length_cons]; rw [ih]
theorem missT_self : ∀ (l : List (List AV)), missT l l = false := by
  intro l
  induction l with
  | nil => rfl
  | cons x l ih => simp only [missT, beq_self_eq_true, Bool.and_self, Bool.not_true, Bool.false_or, ih]
theorem missI_self : ∀ (l : List (List AV)), missI l l = false := by
  intro l
  induction l with
  | nil => rfl
  | cons x l ih => simp only [missI, bne_self_eq_false, Bool.false_or, ih]
section
variable {es cs : List (List AV)} {l : List (List AV)}
theorem q21 : vev21_0 l l = true := by
  unfold vev21_0
  have hd : List.drop (nat_lit 0) l = l := rfl
  rw [hd, missT_self]
  simp only [bne_self_eq_false, cond_false]
theorem q23 : vev23_0 l l = true := by
  unfold vev23_0
  have hd : List.drop (nat_lit 0) l = l := rfl
  rw [hd, missI_self]
  simp only [bne_self_eq_false, cond_false]
theorem k21' (h : l.length ≤ 9223372036854775807) : vev21_1 l l = true := by
  unfold vev21_1
  simp only [sp21L, Nat.ble_eq_true_of_le h, decide_true, Bool.and_self, cond_true, Bool.cond_self]
theorem k23' (h : l.length ≤ 9223372036854775807) : vev23_1 l l = true := by
  unfold vev23_1
  simp only [sp23L, Nat.ble_eq_true_of_le h, decide_true, Bool.and_self, cond_true, Bool.cond_self]
theorem k19' (h : l.length ≤ 12) : vev19_1 l = true := by
  unfold vev19_1
  simp only [sp19L, List.length_nil]
  rw [Nat.ble_eq_true_of_le (by omega), Nat.ble_eq_true_of_le (by omega)]
  rfl
theorem k22' (h : l.length ≤ 12) : vev22_1 l = true := by
  unfold vev22_1
  simp only [sp22L, List.length_nil]
  rw [Nat.ble_eq_true_of_le (by omega), Nat.ble_eq_true_of_le (by omega)]
  rfl
theorem k24' (tk : Tk) (h : l.length ≤ 12) : vev24_1 tk l = true := by
  unfold vev24_1
  simp only [sp24L, decide_true, Bool.true_and]
  rw [decide_eq_true (Or.inr (by decide)), Nat.ble_eq_true_of_le (by omega)]
  rfl
theorem k25' (tk : Tk) (h : l.length ≤ 12) : vev25_1 tk l = true := by
  unfold vev25_1
  simp only [sp25L]
  rw [decide_eq_true (Or.inr (by decide)), Nat.ble_eq_true_of_le (by omega)]
  rfl
theorem k18' (h : es.length ≤ 12) (h2 : cs.length ≤ 60) : vev18_2 es cs = true := by
  unfold vev18_2
  simp only [sp18L, List.length_nil, decide_true, Bool.true_and]
  rw [Nat.ble_eq_true_of_le (by omega), Nat.ble_eq_true_of_le (by omega), Nat.ble_eq_true_of_le (by omega), Nat.ble_eq_true_of_le (by omega)]
  rfl
theorem k20' (h : es.length ≤ 12) (h2 : cs.length ≤ 60) : vev20_2 es cs = true := by
  unfold vev20_2
  simp only [sp20L, List.length_nil]
  rw [decide_eq_true (show es.length * 32 ≤ 140737488355328 by omega), decide_eq_true (show es.length ≤ 9223372036854775807 by omega), Nat.ble_eq_true_of_le (by omega), Nat.ble_eq_true_of_le (by omega), Nat.ble_eq_true_of_le (by omega)]
  rfl
end
theorem okZ {w s f k : Int} : (vev15_0 w s f k != (0 : Int)) = !decide (okT w s f k) := by
  rw [t15]
  by_cases h : okT w s f k <;> simp [h]
theorem okZ' {w s f k : Int} : (vev16_0 w s f k != (0 : Int)) = !decide (okT w s f k) := by
  rw [t16]
  by_cases h : okT w s f k <;> simp [h]
theorem near_eq (w1 s1 f1 k1 w2 s2 f2 k2 a b q : Int) : vev26_0 w1 s1 f1 k1 w2 s2 f2 k2 a b q = vev27_0 w1 s1 f1 k1 w2 s2 f2 k2 a b q := by
  unfold vev26_0 vev27_0
  rw [okZ, okZ, okZ', okZ', t28, t28, t28, t30, t30, t30]
  by_cases h1 : okT w1 s1 f1 k1
  · by_cases h2 : okT w2 s2 f2 k2
    · by_cases h3 : 0 ≤ q ∧ q ≤ 1099511627776
      · by_cases h4 : 0 ≤ a ∧ a ≤ k1
        · by_cases h5 : 0 ≤ b ∧ b ≤ k2
          · rw [decide_eq_true h1, decide_eq_true h2, decide_eq_true h3, decide_eq_true h4, decide_eq_true h5]
            simp only [Bool.not_true, cond_false, cond_true]
            obtain ⟨⟨p1, p2⟩, ⟨p3, p4⟩, _, _⟩ := h1
            obtain ⟨⟨p5, p6⟩, ⟨p7, p8⟩, _, _⟩ := h2
            have b1 : 0 ≤ (k1 - a) * w2 := Int.mul_nonneg (by omega) (by omega)
            have b2 : (k1 - a) * w2 ≤ 1099511627776 * 16 := Int.mul_le_mul (by omega) (by omega) (by omega) (by omega)
            have b3 : 0 ≤ (k2 - b) * w1 := Int.mul_nonneg (by omega) (by omega)
            have b4 : (k2 - b) * w1 ≤ 1099511627776 * 16 := Int.mul_le_mul (by omega) (by omega) (by omega) (by omega)
            have b5 : 0 ≤ q * (w1 + w2) := Int.mul_nonneg (by omega) (by omega)
            have b6 : q * (w1 + w2) ≤ 1099511627776 * 32 := Int.mul_le_mul (by omega) (by omega) (by omega) (by omega)
            rw [wrapOf (k1 - a) (by omega) (by omega), wrapOf (k2 - b) (by omega) (by omega), wrapOf (w1 + w2) (by omega) (by omega)]
            generalize (k1 - a) * w2 = X at b1 b2 ⊢
            generalize (k2 - b) * w1 = Y at b3 b4 ⊢
            generalize q * (w1 + w2) = M at b5 b6 ⊢
            rw [wrapOf X (by omega) (by omega), wrapOf Y (by omega) (by omega), wrapOf M (by omega) (by omega), wrapOf (X - Y) (by omega) (by omega), wrapOf (0 - (X - Y)) (by omega) (by omega), wrapOf (Y - X) (by omega) (by omega)]
            simp only [if_true]
            by_cases c1 : X - Y ≤ M
            · by_cases c2 : Y - X ≤ M
              · rw [decide_eq_true c1, decide_eq_true c2, decide_eq_true (by split <;> omega)]; rfl
              · rw [decide_eq_true c1, decide_eq_false c2, decide_eq_false (by split <;> omega)]; rfl
            · rw [decide_eq_false c1, decide_eq_false (by split <;> omega)]; rfl
          · simp [h1, h2, h3, h4, h5]
        · simp [h1, h2, h3, h4]
      · simp [h1, h2, h3]
    · simp [h1, h2]
  · simp [h1]
theorem r18 {es cs : List (List AV)} (h : FitL es) : vev18_0 es cs = vev20_0 es cs ∧ vev18_1 es cs = vev20_1 es cs ∧ FitL (vev20_0 es cs) := by
  unfold vev18_0 vev20_0 vev18_1 vev20_1
  have hd : List.drop (nat_lit 0) cs = cs := rfl
  rw [hd]
  obtain ⟨h1, h2, h3⟩ := run_same cs es h
  exact ⟨h1, by rw [h2], h3⟩
theorem l20 {es cs : List (List AV)} : (vev20_0 es cs).length = es.length ∧ (vev20_1 es cs).length = cs.length := by
  unfold vev20_0 vev20_1
  have hd : List.drop (nat_lit 0) cs = cs := rfl
  rw [hd, List.nil_append]
  exact ⟨runE_len _ _, runW_len _ _⟩
section
variable {es cs : List (List AV)} {n0 n1 n2 : Int}
theorem e4_0 (h : FitL es) : vev4_0 es cs n0 n1 n2 = true := by
  unfold vev4_0
  cases hc : (bif decide ((↑es.length : Int) > (12 : Int)) then true else decide ((↑cs.length : Int) > (60 : Int))) with
  | true => rw [cond_true]; kernel_rfl
  | false =>
    rw [cond_false]
    have hl : es.length ≤ 12 ∧ cs.length ≤ 60 := by
      cases h1 : decide ((↑es.length : Int) > (12 : Int)) with
      | true => rw [h1] at hc; cases hc
      | false =>
        rw [h1, cond_false, decide_eq_false_iff_not] at hc
        rw [decide_eq_false_iff_not] at h1
        omega
    obtain ⟨h1, h2, h3⟩ := r18 (cs := cs) h
    have hn := l20 (es := es) (cs := cs)
    have e24 : vev24_0 Tk.imm es = vev25_0 Tk.imm es := rfl
    rw [r19 h, h1, h2, r22 h3, k22' (by omega), k21' (by omega), q21, k23' (by omega), q23, k19' hl.1, k24' _ hl.1, k25' _ hl.1, e24]
    simp only [Bool.not_true, cond_true, cond_false, bne_self_eq_false]
    cases h4 : decide ((↑es.length : Int) < (2 : Int)) with
    | true => rw [cond_true]; change _ = true; kernel_rfl
    | false =>
      rw [cond_false]
      rw [decide_eq_false_iff_not] at h4
      have g0 : decide ((0 : Int) < (↑es.length : Int)) = true := by rw [decide_eq_true_eq]; omega
      have g1 : decide ((1 : Int) < (↑es.length : Int)) = true := by rw [decide_eq_true_eq]; omega
      have g2 : decide ((0 : Int) ≤ (0 : Int)) = true := rfl
      have g3 : decide ((0 : Int) ≤ (1 : Int)) = true := rfl
      rw [g0, g1, g2, g3, near_eq]
      simp only [beq_self_eq_true, Bool.and_self, cond_true]
      change _ = true
      kernel_rfl
theorem e4_1 (h : FitL es) : vev4_1 es cs n0 n1 n2 = true := by
  unfold vev4_1
  cases hc : (bif decide ((↑es.length : Int) > (12 : Int)) then true else decide ((↑cs.length : Int) > (60 : Int))) with
  | true => rfl
  | false =>
    rw [cond_false]
    have hl : es.length ≤ 12 ∧ cs.length ≤ 60 := by
      cases h1 : decide ((↑es.length : Int) > (12 : Int)) with
      | true => rw [h1] at hc; cases hc
      | false =>
        rw [h1, cond_false, decide_eq_false_iff_not] at hc
        rw [decide_eq_false_iff_not] at h1
        omega
    obtain ⟨h1, h2, h3⟩ := r18 (cs := cs) h
    have hn := l20 (es := es) (cs := cs)
    have e24 : vev24_0 Tk.imm es = vev25_0 Tk.imm es := rfl
    rw [r19 h, k18' hl.1 hl.2, k20' hl.1 hl.2, h1, h2, r22 h3, k22' (by omega), k21' (by omega), q21, k23' (by omega), q23, k19' hl.1, k24' _ hl.1, k25' _ hl.1, e24]
    simp only [Bool.not_true, cond_true, cond_false, bne_self_eq_false]
    cases h4 : decide ((↑es.length : Int) < (2 : Int)) with
    | true => rfl
    | false =>
      rw [cond_false]
      rw [decide_eq_false_iff_not] at h4
      have g0 : decide ((0 : Int) < (↑es.length : Int)) = true := by rw [decide_eq_true_eq]; omega
      have g1 : decide ((1 : Int) < (↑es.length : Int)) = true := by rw [decide_eq_true_eq]; omega
      rw [g0, g1]
      rfl
theorem law4 (h : ∀ x ∈ es, okKL [.int .i64, .int .i64, .int .i64, .int .i64] x) : FnOK Try.prog 4 [.sl .imm [.int .i64, .int .i64, .int .i64, .int .i64] es, .sl .imm [.int .i64] cs, .agg [.int .i64 n0, .int .i64 n1, .int .i64 n2]] [] (.bool true) [] := by
  have hF : FitL es := fun x hx => fit_of (h x hx)
  have he := ev4 es cs n0 n1 n2
  rw [e4_1 hF, e4_0 hF, cond_true] at he
  exact (fn_ok mixed plain (gk_ok k20_ok 30) Try.func4 (fun c _ => LoopsOK.none (fun _ _ => rfl) c) he).2
end
end Go.Proofs.Gv
