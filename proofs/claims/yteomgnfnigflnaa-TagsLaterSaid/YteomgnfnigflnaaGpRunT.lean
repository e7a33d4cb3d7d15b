/-
What tags.Run does, whatever it gets the lists as.
-/
import Derived.Test.YteomgnfnigflnaaGaRunT
import Derived.Test.YteomgnfnigflnaaGpFairA
namespace Go.Proofs.Gv
open Go.Proofs
set_option linter.unusedVariables false
theorem h24_ok {es : List (List AV)} (h : es.length ≤ 1000000) : vev24_1 Tk.lent es = true := by
  unfold vev24_1
  simp only [sp24L, decide_true, Bool.true_and]
  rw [decide_eq_true (Or.inr (by decide)), Nat.ble_eq_true_of_le (by omega)]
  rfl
theorem step18t {tk : Tk} {cs who es : List (List AV)} {i : Nat} (hi : i < cs.length) (hc : cs.length ≤ 1000000) (hw : who.length ≤ 1000000) (he : es.length ≤ 1000000) :
    g18t_4 (tk, cs, (cs.length : Int)) ((i : Int), who, es) = true ∧ n18t_4 (tk, cs, (cs.length : Int)) ((i : Int), who, es) = (((i + 1 : Nat) : Int), who ++ [[AV.int .i64 (stepW18 es (gT (cs.getD i []) 0))]], stepE18 es (gT (cs.getD i []) 0)) := by
  have d1 : decide ((i : Int) < (cs.length : Int)) = true := decide_eq_true (by omega)
  have d2 : decide ((0 : Int) ≤ (i : Int)) = true := decide_eq_true (by omega)
  have d5 : decide ((who.length + 1) * 8 ≤ 140737488355328) = true := decide_eq_true (by omega)
  have d6 : decide (who.length + 1 ≤ 9223372036854775807) = true := decide_eq_true (by omega)
  have h24 := h24_ok he
  have h0 : vev24_0 Tk.lent es = turnF es := rfl
  have hlt := turn_lt es
  have dl : decide (turnF es < (es.length : Int)) = true := decide_eq_true hlt
  have hg : intOf ((cs.getD i []).getD 0 AV.junk) = gT (cs.getD i []) 0 := rfl
  refine ⟨?_, ?_⟩
  · unfold g18t_4 go18t_4
    simp only [d1, d2, d5, d6, h24, h0, dl, t7_5, cond_true, Bool.and_true, Bool.and_self]
    by_cases hA : turnF es ≥ 0
    · rw [decide_eq_true hA]
      have : decide (0 ≤ turnF es) = true := decide_eq_true hA
      simp only [this, cond_true]
      simp only [Bool.cond_self]
    · rw [decide_eq_false hA]
      rfl
  · unfold n18t_4
    dsimp only
    unfold nx18t_4_3 nx18t_4_4 nx18t_4_5
    rw [h0, Int.toNat_natCast, wrapN i cs.length hi (by omega)]
    change (((i + 1 : Nat) : Int), (bif bif decide (turnF es ≥ 0) then decide (gT (cs.getD i []) 0 > 0) else false then _ else _), (bif bif decide (turnF es ≥ 0) then decide (gT (cs.getD i []) 0 > 0) else false then _ else _)) = _
    by_cases hA : turnF es ≥ 0
    · rw [decide_eq_true hA, cond_true]
      by_cases hC : gT (cs.getD i []) 0 > 0
      · rw [decide_eq_true hC, cond_true]
        cases hq : (code18 (es.getD (turnF es).toNat []) (gT (cs.getD i []) 0) != 0) with
        | true =>
          have hq' := hq
          unfold code18 gT at hq'
          simp only [Nat.zero_add, Nat.reduceAdd]
          unfold gT
          rw [hq', cond_true]
          unfold stepE18 stepW18
          unfold gT at hq hC
          rw [decide_eq_true hA, decide_eq_true hC, hq]
          rfl
        | false =>
          have hq' := hq
          unfold code18 gT at hq'
          simp only [Nat.zero_add, Nat.reduceAdd]
          unfold gT
          rw [hq', cond_false]
          unfold stepE18 stepW18
          unfold gT at hq hC
          rw [decide_eq_true hA, decide_eq_true hC, hq]
          rfl
      · rw [decide_eq_false hC, cond_false]
        unfold stepE18 stepW18
        rw [decide_eq_true hA, decide_eq_false hC]
        rfl
    · rw [decide_eq_false hA]
      unfold stepE18 stepW18
      rw [decide_eq_false hA]
      rfl
theorem ends18t {tk : Tk} {cs : List (List AV)} (hc : cs.length ≤ 500000) : ∀ (m i : Nat) (who es : List (List AV)), i + m = cs.length → who.length ≤ i → es.length ≤ 500000 →
    Ends (g18t_4 (tk, cs, (cs.length : Int))) (n18t_4 (tk, cs, (cs.length : Int))) ((i : Int), who, es) ((cs.length : Int), who ++ runW18 es (cs.drop i), runE18 es (cs.drop i)) := by
  intro m
  induction m with
  | zero =>
    intro i who es hi hw he
    have : i = cs.length := by omega
    subst this
    rw [List.drop_length]
    simp only [runW18, runE18, List.append_nil]
    refine Ends.stop ?_
    unfold g18t_4 go18t_4
    simp only
    rw [decide_eq_false (by omega)]
    rfl
  | succ m ih =>
    intro i who es hi hw he
    obtain ⟨h1, h2⟩ := step18t (tk := tk) (cs := cs) (who := who) (es := es) (i := i) (by omega) (by omega) (by omega) (by omega)
    refine Ends.step h1 ?_
    rw [h2, drop_step (α := List AV) [] (show i < cs.length by omega)]
    simp only [runW18, runE18]
    have := ih (i + 1) (who ++ [[AV.int .i64 (stepW18 es (gT (cs.getD i []) 0))]]) (stepE18 es (gT (cs.getD i []) 0)) (by omega) (by simp; omega) (by rw [stepE18_len]; omega)
    simpa only [List.append_assoc, List.singleton_append] using this
theorem r18t {t1 t2 : Tk} {es cs : List (List AV)} (he : es.length ≤ 500000) (hc : cs.length ≤ 500000) : vev18t_0 t1 t2 es cs = runE18 es cs ∧ vev18t_1 t1 t2 es cs = runW18 es cs ∧ vev18t_2 t1 t2 es cs = true := by
  have h := (ends18t (tk := t2) hc cs.length 0 [] es (by omega) (by simp) he).fin
  rw [List.drop_zero] at h
  unfold vev18t_0 vev18t_1 vev18t_2
  simp only [spI]
  rw [show ((0 : Nat) : Int) = 0 from rfl] at h
  rw [h.2]
  refine ⟨rfl, rfl, ?_⟩
  rw [h.1, Nat.ble_eq_true_of_le (by omega)]
  unfold y18t_4 z18t_4 xc18t_4_0
  simp only
  rw [decide_eq_false (by omega)]
  rfl
end Go.Proofs.Gv
