/-
UnackLate: what waits for too long does so from then on.
-/
import Derived.Test.YtogfdnopjgpdiaaGaUq6
import Derived.Test.YtogfdnopjgpdiaaGpUC
namespace Go.Proofs.Gv
open Go.Proofs
set_option linter.unusedVariables false
variable {tk tk2 : Tk} {es es2 : List (List AV)}
theorem wrapU (x : Int) (h0 : 0 ≤ x) (h1 : x ≤ 18446744073709551615) : IntKind.u64.wrap x = x := by
  show x % 18446744073709551616 = x
  omega
/-- Rows that a caller gives are items. -/
theorem Fm.of (h : ∀ e ∈ es, okKL [.sl [.int .u16, .int .u32], .int .i64] e) : Fm es := fun e he => by
  have := h e he
  simp only [okKL, okK] at this
  obtain ⟨x, xs, rfl, ⟨ps, rfl, _⟩, y, ys, rfl, ⟨s, rfl, _⟩, rfl⟩ := this
  exact ⟨ps, s, rfl⟩
/-- Does the first wait for too long? -/
def late (es : List (List AV)) (now most : Int) : Bool := decide (0 < es.length) && (decide (0 ≤ most) && decide (si es 0 + most ≤ now))
theorem r19 {now most : Int} (h0 : 0 ≤ now) (h1 : now ≤ 9223372036854775807) (hm : most ≤ 9223372036854775807) (hs : 0 < es.length → 0 ≤ si es 0 ∧ si es 0 ≤ 9223372036854775807) : vev19_0 tk es now most = late es now most ∧ vev19_1 tk es now most = true := by
  unfold vev19_0 vev19_1 rev19_1 late
  rw [show rev19_0 tk es now most = si es 0 from rfl, show ((es.length : Int) == 0) = !decide (0 < es.length) from Bool.eq_iff_iff.2 (by simp), show decide ((0 : Int) < (es.length : Int)) = decide (0 < es.length) from decide_eq_decide.2 (by omega)]
  by_cases hl : 0 < es.length
  · obtain ⟨a, b⟩ := hs hl
    rw [decide_eq_true hl]
    by_cases hmm : 0 ≤ most
    · rw [decide_eq_false (show ¬ most < 0 by omega), decide_eq_true hmm]
      by_cases hn : now < si es 0
      · rw [decide_eq_true hn, decide_eq_false (show ¬ si es 0 + most ≤ now by omega)]
        exact ⟨rfl, rfl⟩
      · rw [decide_eq_false hn, wrapU now h0 (by omega), wrapU _ a (by omega), wrapU (now - si es 0) (by omega) (by omega), wrapU most hmm (by omega)]
        refine ⟨?_, rfl⟩
        show decide (now - si es 0 ≥ most) = decide (si es 0 + most ≤ now)
        exact decide_eq_decide.2 (by omega)
    · rw [decide_eq_true (show most < 0 by omega), decide_eq_false hmm]
      exact ⟨rfl, rfl⟩
  · rw [decide_eq_false hl]
    exact ⟨rfl, rfl⟩
theorem si_drop (i : Nat) : si (es.drop 1) i = si es (i + 1) := by
  unfold si
  simp only [List.getD_eq_getElem?_getD, List.getElem?_drop]
  rw [Nat.add_comm 1 i]
/-- What Check's silence tells. -/
theorem chk0 (h : chk es = 0) : es.length ≤ 4 ∧ (∀ i, i < es.length → (pr es i).length ≤ 8) ∧ (∀ i, i < es.length → 0 ≤ si es i ∧ si es i ≤ 1099511627776) ∧ ∀ i, 1 ≤ i → i < es.length → si es (i - 1) ≤ si es i := by
  unfold chk at h
  by_cases h4 : (es.length : Int) > 4
  · rw [decide_eq_true h4] at h; cases h
  · rw [decide_eq_false h4] at h
    cases ha : hasF (fun i => decide (((pr es i).length : Int) > 8)) 0 es.length with
    | true => rw [ha] at h; cases h
    | false =>
      cases hb : hasF (fun i => !vev27_0 (si es i)) 0 es.length with
      | true => rw [ha, hb] at h; cases h
      | false =>
        cases hc : hasF (fun i => decide (si es i < si es (i - 1))) 1 es.length with
        | true => rw [ha, hb, hc] at h; cases h
        | false =>
          refine ⟨by omega, fun i hi => ?_, fun i hi => in_iff.1 (by simpa using hasF_no.1 hb i (Nat.zero_le _) hi), fun i h1 hi => ?_⟩
          · have := hasF_no.1 ha i (Nat.zero_le _) hi
            simp at this; omega
          · have := hasF_no.1 hc i h1 hi
            simp at this; omega
theorem r26 (hN : es.length ≤ 1000) : vev26_0 tk es = true := by
  unfold vev26_0
  rw [Nat.ble_eq_true_of_le (by omega)]; rfl
theorem r12 (hN : es.length ≤ 1000) (hS : Sh es) : vev12_0 tk es = es.drop 1 ∧ vev12_1 tk es = (bif decide (0 < es.length) then pr es 0 else []) ∧ vev12_2 tk es = decide (0 < es.length) ∧ vev12_3 tk es = true := by
  unfold vev12_0 vev12_1 vev12_2 vev12_3
  rw [show ((es.length : Int) == 0) = !decide (0 < es.length) from Bool.eq_iff_iff.2 (by simp), show decide ((0 : Int) < (es.length : Int)) = decide (0 < es.length) from decide_eq_decide.2 (by omega)]
  by_cases hl : 0 < es.length
  · rw [decide_eq_true hl, show bnd 1 (es.length : Int) (es.length : Int) = true by simp [bnd]; omega]
    refine ⟨rfl, rfl, rfl, ?_⟩
    rw [r26 (by unfold rev12_0; rw [List.length_drop]; omega), show rev12_1 tk es = pr es 0 from rfl, Nat.ble_eq_true_of_le (by have := hS 0 hl; omega)]
    rfl
  · rw [decide_eq_false hl]
    have : es = [] := List.eq_nil_of_length_eq_zero (by omega)
    subst this
    exact ⟨rfl, rfl, rfl, rfl⟩
theorem r6 (hf : Fm es) (hN : es.length * 32 ≤ 140737488355328) {now most : Int} (hn : 0 ≤ now ∧ now ≤ 4294967295) (hm : 0 ≤ most ∧ most ≤ 4294967295) : vev6_1 es now most = true ∧ vev6_0 es now most = true := by
  obtain ⟨l1, l2⟩ := r7 (tk := .imm) (es := es)
  unfold vev6_0 vev6_1 rev6_0 rev6_1
  obtain ⟨e1, e2⟩ := r9 hN hf
  rw [l1, e1, e2]
  cases hl : vev7_0 .imm es with
  | false => exact ⟨rfl, rfl⟩
  | true =>
    obtain ⟨l3, l4⟩ := l2 hl
    have l5 : es.length ≤ 1000 := by omega
    have hS : Sh es := fun i hi => Nat.le_trans (l4 i hi) (by omega)
    obtain ⟨c1, c2⟩ := r17 (tk := .imm) l5
    obtain ⟨a0, a1, a2, a3⟩ := r12 (tk := .imm) l5 hS
    rw [c1, c2, a0, a2, a3, wrap64 now (by omega) (by omega), wrap64 most (by omega) (by omega), wrap64 (now + 1) (by omega) (by omega), wrap64 (most - 1) (by omega) (by omega)]
    by_cases hc : chk es = 0
    · obtain ⟨k0, k1, k2, k3⟩ := chk0 hc
      have s0 : 0 < es.length → 0 ≤ si es 0 ∧ si es 0 ≤ 9223372036854775807 := fun h => by have := k2 0 h; omega
      have s1 : 0 < (es.drop 1).length → 0 ≤ si (es.drop 1) 0 ∧ si (es.drop 1) 0 ≤ 9223372036854775807 := fun h => by
        rw [List.length_drop] at h
        rw [si_drop]; show 0 ≤ si es 1 ∧ si es 1 ≤ 9223372036854775807; have := k2 1 (by omega); omega
      rw [(r19 (by omega) (by omega) (by omega) s0).1, (r19 (by omega) (by omega) (by omega) s0).2, (r19 (now := now + 1) (by omega) (by omega) (by omega) s0).1, (r19 (now := now + 1) (by omega) (by omega) (by omega) s0).2,
        (r19 (most := most - 1) (by omega) (by omega) (by omega) s0).1, (r19 (most := most - 1) (by omega) (by omega) (by omega) s0).2, (r19 (by omega) (by omega) (by omega) s1).1, (r19 (by omega) (by omega) (by omega) s1).2]
      have hcb : (chk es != (0 : Int)) = false := by rw [hc]; rfl
      rw [hcb]
      have q1 : late es now most = true → late es (now + 1) most = true := by
        unfold late; simp only [Bool.and_eq_true, decide_eq_true_eq]; omega
      have q2 : late es now most = true → 0 < most → late es now (most - 1) = true := by
        unfold late; simp only [Bool.and_eq_true, decide_eq_true_eq]; omega
      have q3 : late es now most = true → decide (0 < es.length) = true := by
        unfold late; simp only [Bool.and_eq_true, decide_eq_true_eq]; omega
      have q4 : late es now most = false → late (es.drop 1) now most = false := by
        intro h
        apply Bool.eq_false_iff.2
        intro h2
        apply Bool.eq_false_iff.1 h
        unfold late at h2 ⊢
        rw [List.length_drop, si_drop] at h2
        simp only [Bool.and_eq_true, decide_eq_true_eq] at h2 ⊢
        have := k3 1 (by omega) (by omega)
        have e : si es (0 + 1) = si es 1 := rfl
        have e' : si es (1 - 1) = si es 0 := rfl
        rw [e] at h2; rw [e'] at this
        omega
      have q5 : (decide (0 < es.length) == decide ((es.length : Int) > 0)) = true := by
        rw [show decide ((es.length : Int) > 0) = decide (0 < es.length) from decide_eq_decide.2 (by omega)]; exact beq_self_eq_true _
      rw [q5]
      cases hL : late es now most with
      | false =>
        rw [q4 hL]
        exact ⟨rfl, rfl⟩
      | true =>
        rw [q1 hL, q3 hL]
        by_cases h0 : 0 < most
        · rw [q2 hL h0, decide_eq_true (show most > 0 from h0)]
          exact ⟨rfl, rfl⟩
        · rw [decide_eq_false (show ¬ most > 0 from h0)]
          exact ⟨rfl, rfl⟩
    · have hcb : (chk es != (0 : Int)) = true := by simpa using hc
      rw [hcb]
      exact ⟨rfl, rfl⟩
theorem law6 {es : List (List AV)} {now most : Int} (h : ∀ e ∈ es, okKL [.sl [.int .u16, .int .u32], .int .i64] e) (hN : es.length * 32 ≤ 140737488355328) (w1 : (Lit.int .u32 now).wf = true) (w2 : (Lit.int .u32 most).wf = true) : FnOK Try.prog 6 [.sl .imm [.sl [.int .u16, .int .u32], .int .i64] es, .int .u32 now, .int .u32 most] [] (.bool true) [] := by
  have k : ∀ x : Int, (Lit.int .u32 x).wf = true → 0 ≤ x ∧ x ≤ 4294967295 := fun x hx => by
    have h2 : (decide (0 ≤ x) && decide (x ≤ 4294967295)) = true := hx
    simpa using h2
  have i1 := k _ w1
  have i2 := k _ w2
  have key := r6 (Fm.of h) hN (now := now) (most := most) i1 i2
  have he := ev6 es now most
  rw [key.1, key.2, cond_true] at he
  exact (fn_ok mixed plain (gk_ok k11_ok 30) Try.func6 (fun c _ => LoopsOK.none (fun _ _ => rfl) c) he).2
end Go.Proofs.Gv
