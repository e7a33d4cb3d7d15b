/-
Unack: Check of both sides.
-/
import Derived.Test.YtogfdnopjgpdiaaGpUA
namespace Go.Proofs.Gv
open Go.Proofs
set_option linter.unusedVariables false
variable {tk tk2 : Tk} {es es2 : List (List AV)}
/-- A loop that goes down. -/
theorem Ends.down {go : Int → Bool} {next : Int → Int} (P : Nat → Bool) (m : Nat) (hg : ∀ i : Nat, i ≤ m → go (i : Int) = (decide (0 < i) && !P i)) (hn : ∀ i : Nat, 0 < i → i ≤ m → next (i : Int) = ((i - 1 : Nat) : Int)) : ∃ k : Nat, k ≤ m ∧ Ends go next (m : Int) (k : Int) ∧ (decide (0 < k) && P k) = hasF P 1 (m + 1) ∧ (0 < k → P k = true) := by
  induction m with
  | zero =>
    refine ⟨0, Nat.le_refl _, Ends.stop (by rw [hg 0 (Nat.le_refl _)]; rfl), ?_, fun h => by omega⟩
    rw [hasF_no.2 (fun i h1 h2 => by omega)]; rfl
  | succ m ih =>
    cases hP : P (m + 1) with
    | true =>
      refine ⟨m + 1, Nat.le_refl _, Ends.stop (by rw [hg _ (Nat.le_refl _), hP, Bool.not_true, Bool.and_false]), ?_, fun _ => hP⟩
      rw [decide_eq_true (by omega), hP, hasF_iff.2 ⟨m + 1, by omega, by omega, hP⟩]; rfl
    | false =>
      obtain ⟨k, h1, h2, h3, h4⟩ := ih (fun i hi => hg i (by omega)) (fun i h hi => hn i h (by omega))
      refine ⟨k, by omega, Ends.step (by rw [hg _ (Nat.le_refl _), hP, decide_eq_true (by omega)]; rfl) (by rw [hn _ (by omega) (Nat.le_refl _)]; exact h2), ?_, h4⟩
      rw [h3]
      exact Bool.eq_iff_iff.2 (by
        rw [hasF_iff, hasF_iff]
        constructor
        · rintro ⟨i, a, b, c⟩; exact ⟨i, a, by omega, c⟩
        · rintro ⟨i, a, b, c⟩
          refine ⟨i, a, ?_, c⟩
          rcases Nat.lt_or_ge i (m + 1) with h | h
          · exact h
          · obtain rfl : i = m + 1 := by omega
            rw [hP] at c; cases c)
def P33 (es : List (List AV)) (i : Nat) : Bool := decide (IntKind.i64.wrap (si es i - si es (i - 1)) < 0)
theorem r33 (hN : es.length ≤ 1000) : vev33_0 tk es = !hasF (P33 es) 1 es.length ∧ vev33_1 tk es = true := by
  unfold vev33_0 vev33_1 rev33_1 rev33_0
  have hgo : ∀ i : Nat, i < es.length → go33_2 tk es (i : Int) = (decide (0 < i) && !P33 es i) ∧ xc33_2_0 tk es (i : Int) = (decide (0 < i) && P33 es i) ∧ xc33_2_1 tk es (i : Int) = !decide (0 < i) := fun i hi => by
    unfold go33_2 xc33_2_0 xc33_2_1 rn33_2_1 rn33_2_0
    rw [show decide ((i : Int) > 0) = decide (0 < i) from decide_eq_decide.2 (by omega)]
    by_cases h : 0 < i
    · rw [decide_eq_true h, wrap64 ((i : Int) - 1) (by omega) (by omega), show (i : Int) - 1 = ((i - 1 : Nat) : Int) by omega, Int.toNat_natCast, Int.toNat_natCast, dge, dge, dlt, dlt, decide_eq_true hi, decide_eq_true (show i - 1 < es.length by omega)]
      show (bif P33 es i then false else true) = _ ∧ P33 es i = _ ∧ _
      cases P33 es i <;> exact ⟨rfl, rfl, rfl⟩
    · rw [decide_eq_false h]; exact ⟨rfl, rfl, rfl⟩
  simp only [spI]
  rcases Nat.eq_zero_or_pos es.length with h0 | h0
  · rw [h0, show IntKind.i64.wrap (((0 : Nat) : Int) - 1) = -1 by rw [wrap64 _ (by omega) (by omega)]; rfl]
    have f := (Ends.stop (go := g33_2 (tk, es)) (next := n33_2 (tk, es)) (a := (-1 : Int)) rfl).fin
    rw [f.1, f.2, hasF_no.2 (fun i h1 h2 => by omega)]
    exact ⟨rfl, rfl⟩
  · obtain ⟨k, h1, h2, h3, h4⟩ := Ends.down (go := g33_2 (tk, es)) (next := n33_2 (tk, es)) (P33 es) (es.length - 1) (fun i hi => (hgo i (by omega)).1) (fun i h hi => by
      show rn33_2_0 tk es (i : Int) = _
      unfold rn33_2_0
      rw [wrap64 _ (by omega) (by omega)]; omega)
    rw [show IntKind.i64.wrap ((es.length : Int) - 1) = ((es.length - 1 : Nat) : Int) by rw [wrap64 _ (by omega) (by omega)]; omega]
    have f := h2.fin
    rw [show es.length - 1 + 1 = es.length by omega] at h3
    rw [f.1, f.2]
    have hk := hgo k (by omega)
    unfold y33_2 z33_2
    dsimp only
    rw [hk.2.1, hk.2.2, ← h3]
    by_cases h5 : 0 < k
    · rw [h4 h5, decide_eq_true h5]; exact ⟨rfl, rfl⟩
    · rw [decide_eq_false h5]; exact ⟨rfl, rfl⟩
/-- What Check answers. -/
noncomputable def chk (es : List (List AV)) : Int := bif decide ((es.length : Int) > 4) then 7 else bif hasF (fun i => decide (((pr es i).length : Int) > 8)) 0 es.length then 5 else bif hasF (fun i => !vev27_0 (si es i)) 0 es.length then 8 else bif hasF (fun i => decide (si es i < si es (i - 1))) 1 es.length then 10 else 0
theorem r29 (n : Int) : vev29_0 n = vev27_0 n := rfl
theorem r18 (hN : es.length ≤ 1000) : vev18_0 tk es = chk es ∧ vev18_1 tk es = true := by
  have h1 := sk18_4 (tk := tk) hN
  have h2 := sk18_9 (tk := tk) hN
  have h3 := sk18_14 (tk := tk) hN
  unfold vev18_0 vev18_1 rev18_0 rev18_1 rev18_2 chk
  rw [h1.1, h1.2.1, h1.2.2, h2.1, h2.2.1, h2.2.2, h3.1, h3.2.1, h3.2.2]
  simp only [r29]
  generalize decide ((es.length : Int) > 4) = a
  generalize hasF (fun i => decide (((pr es i).length : Int) > 8)) 0 es.length = b
  generalize hasF (fun i => !vev27_0 (si es i)) 0 es.length = c
  cases a <;> cases b <;> cases c <;> refine ⟨?_, ?_⟩ <;> first | rfl | trivial
theorem r30a (hN : es.length ≤ 1000) : vev30a_0 tk es = hasF (fun i => decide (((pr es i).length : Int) > 8)) 0 es.length ∧ vev30a_1 tk es = true := by
  have h := sk41a_2 (tk := tk) hN
  unfold vev30a_0 vev30a_1 vev41a_0 vev41a_1 rev41a_0
  rw [h.1, h.2.1, h.2.2]
  cases hasF (fun i => decide (((pr es i).length : Int) > 8)) 0 es.length
  · exact ⟨rfl, rfl⟩
  · exact ⟨decide_eq_true (by show (0 : Int) ≤ _; exact Int.natCast_nonneg _), rfl⟩
theorem r30b (hN : es.length ≤ 1000) : vev30b_0 tk es = hasF (fun i => !vev27_0 (si es i)) 0 es.length ∧ vev30b_1 tk es = true := by
  have h := sk41b_2 (tk := tk) hN
  unfold vev30b_0 vev30b_1 vev41b_0 vev41b_1 rev41b_0
  rw [h.1, h.2.1, h.2.2]
  cases hasF (fun i => !vev27_0 (si es i)) 0 es.length
  · exact ⟨rfl, rfl⟩
  · exact ⟨decide_eq_true (by show (0 : Int) ≤ _; exact Int.natCast_nonneg _), rfl⟩
theorem in_iff {n : Int} : vev27_0 n = true ↔ 0 ≤ n ∧ n ≤ 1099511627776 := by
  unfold vev27_0
  by_cases h0 : n ≥ 0
  · rw [decide_eq_true h0]; simp only [cond_true, decide_eq_true_eq]; omega
  · rw [decide_eq_false h0]; simp only [cond_false]; constructor
    · intro h; cases h
    · intro h; omega
theorem P33_in (h : hasF (fun i => !vev27_0 (si es i)) 0 es.length = false) : hasF (P33 es) 1 es.length = hasF (fun i => decide (si es i < si es (i - 1))) 1 es.length := by
  have hi : ∀ i, i < es.length → 0 ≤ si es i ∧ si es i ≤ 1099511627776 := fun i hi => in_iff.1 (by simpa using hasF_no.1 h i (Nat.zero_le _) hi)
  refine hasF_congr fun i h1 h2 => ?_
  have a := hi i h2
  have b := hi (i - 1) (by omega)
  unfold P33
  rw [wrap64 _ (by omega) (by omega)]
  exact decide_eq_decide.2 (by omega)
theorem r17 (hN : es.length ≤ 1000) : vev17_0 tk es = chk es ∧ vev17_1 tk es = true := by
  unfold vev17_0 vev17_1 chk
  rw [(r30a hN).1, (r30a hN).2, (r30b hN).1, (r30b hN).2, (r33 hN).1, (r33 hN).2, Bool.not_not]
  cases hc : hasF (fun i => !vev27_0 (si es i)) 0 es.length with
  | false =>
    rw [P33_in hc]
    cases decide ((es.length : Int) > 4) <;> cases hasF (fun i => decide (((pr es i).length : Int) > 8)) 0 es.length <;> exact ⟨rfl, rfl⟩
  | true => cases decide ((es.length : Int) > 4) <;> cases hasF (fun i => decide (((pr es i).length : Int) > 8)) 0 es.length <;> exact ⟨rfl, rfl⟩
end Go.Proofs.Gv
