/-
Aging: plain facts of the searches: the first place where something holds; who may be.
-/
import Derived.Test.YtgaadhlneglidaaGaAg4
import Derived.Test.YtgaadhlneglidaaGwA
import Derived.Test.YtgaadhlneglidaaGwG
namespace Go.Proofs.Gv
open Go.Proofs
set_option linter.unusedVariables false
theorem wrapOf (x : Int) (h0 : -9223372036854775808 ≤ x) (h1 : x ≤ 9223372036854775807) : IntKind.i64.wrap x = x := by
  rw [IntKind.wrap_i64]; omega
/-- The first place below N where P holds; N: there is none. -/
def ff (P : Nat → Bool) (N : Nat) : Nat := (List.range N).findIdx P
theorem ff_le (P : Nat → Bool) (N : Nat) : ff P N ≤ N := by
  have h := List.findIdx_le_length (p := P) (xs := List.range N)
  rw [List.length_range] at h
  exact h
theorem ff_hit {P : Nat → Bool} {N : Nat} (h : ff P N < N) : P (ff P N) = true := by
  have h1 : (List.range N).findIdx P < (List.range N).length := by rw [List.length_range]; exact h
  have h2 := List.findIdx_getElem (w := h1)
  rw [List.getElem_range] at h2
  exact h2
theorem ff_miss {P : Nat → Bool} {N j : Nat} (h : j < ff P N) : P j = false := by
  have h2 := List.not_of_lt_findIdx (p := P) (xs := List.range N) h
  rw [List.getElem_range] at h2
  simpa using h2
theorem ff_of {P : Nat → Bool} {N k : Nat} (h0 : k ≤ N) (h1 : k < N → P k = true) (h2 : ∀ j, j < k → P j = false) : ff P N = k := by
  have h3 := ff_le P N
  rcases Nat.lt_trichotomy (ff P N) k with h | h | h
  · have := ff_hit (P := P) (N := N) (by omega)
    rw [h2 _ h] at this
    cases this
  · exact h
  · have := ff_miss h
    rw [h1 (by omega)] at this
    cases this
theorem ff_congr {P Q : Nat → Bool} {N : Nat} (h : ∀ i, i < N → P i = Q i) : ff P N = ff Q N :=
  ff_of (ff_le _ _) (fun hk => by rw [h _ hk]; exact ff_hit hk) (fun j hj => by rw [h j (Nat.lt_of_lt_of_le hj (ff_le _ _))]; exact ff_miss hj)
/-- A loop that looks for a place. -/
theorem Ends.first {go : Int → Bool} {next : Int → Int} (P : Nat → Bool) (N : Nat) (hg : ∀ i : Nat, i ≤ N → go (i : Int) = (decide (i < N) && !P i)) (hn : ∀ i : Nat, i < N → next (i : Int) = ((i + 1 : Nat) : Int)) : Ends go next (0 : Int) ((ff P N : Nat) : Int) := by
  have h := Ends.count (go := go) (next := next) (ff P N) (fun i => ((i : Nat) : Int)) (fun i hi => by
    have h1 := ff_le P N
    refine ⟨?_, hn i (by omega)⟩
    rw [hg i (by omega), decide_eq_true (show i < N by omega), ff_miss hi]
    rfl) (by
    have h1 := ff_le P N
    rw [hg _ h1]
    by_cases h2 : ff P N < N
    · rw [ff_hit h2, Bool.not_true, Bool.and_false]
    · rw [decide_eq_false h2, Bool.false_and])
  exact h
/-- What a search answers. -/
def ix (P : Nat → Bool) (N : Nat) : Int := if ff P N < N then (ff P N : Int) else -1
theorem ix_nonneg (P : Nat → Bool) (N : Nat) : (0 ≤ ix P N) ↔ ff P N < N := by
  unfold ix
  split <;> omega
/-- The parts of a request. -/
def q0 (es : List (List AV)) (i : Nat) : Int := intOf ((es.getD i []).getD 0 .junk)
def q1 (es : List (List AV)) (i : Nat) : Int := intOf ((es.getD i []).getD 1 .junk)
def q2 (es : List (List AV)) (i : Nat) : Int := intOf ((es.getD i []).getD 2 .junk)
def q3 (es : List (List AV)) (i : Nat) : Int := intOf ((es.getD i []).getD 3 .junk)
theorem nxt (i N : Nat) (h : i < N) (hN : N ≤ 1000) : IntKind.i64.wrap ((i : Int) + 1) = ((i + 1 : Nat) : Int) := by
  rw [wrapOf _ (by omega) (by omega)]; rfl
theorem in2 {i N : Nat} (h : i < N) : (decide ((0 : Int) ≤ (i : Int)) && decide ((i : Int) < (N : Int))) = true := by
  rw [decide_eq_true (show (0 : Int) ≤ (i : Int) by omega), decide_eq_true (show (i : Int) < (N : Int) by omega)]; rfl
variable {tk tk2 : Tk} {es es2 : List (List AV)} {l id : Int}
theorem ends36a (hN : es.length ≤ 1000) : Ends (g36a_2 (tk, es, (es.length : Int), id)) (n36a_2 (tk, es, (es.length : Int), id)) (0 : Int) ((ff (fun i => q0 es i == id) es.length : Nat) : Int) := by
  refine Ends.first _ _ (fun i hi => ?_) (fun i hi => nxt i _ hi hN)
  show go36a_2 tk es (es.length : Int) (i : Int) id = _
  unfold go36a_2
  rw [Int.toNat_natCast]
  unfold vev43_0
  by_cases h : i < es.length
  · rw [decide_eq_true (show (i : Int) < (es.length : Int) by omega), decide_eq_true h, decide_eq_true (show (0 : Int) ≤ (i : Int) by omega)]
    show (bif q0 es i == id then false else true) = _
    cases (q0 es i == id) <;> rfl
  · rw [decide_eq_false (show ¬ (i : Int) < (es.length : Int) by omega), decide_eq_false h]
    rfl
theorem r36a (hN : es.length ≤ 1000) : vev36a_0 tk es id = ix (fun i => q0 es i == id) es.length ∧ vev36a_1 tk es id = true := by
  have h := (ends36a (tk := tk) (id := id) hN).fin
  have h0 := ff_le (fun i => q0 es i == id) es.length
  unfold vev36a_0 vev36a_1 rev36a_0
  simp only [spI]
  rw [h.2, h.1]
  unfold y36a_2 z36a_2 xc36a_2_0 xc36a_2_1 ix
  dsimp only
  rw [Int.toNat_natCast]
  unfold vev43_0
  by_cases h2 : ff (fun i => q0 es i == id) es.length < es.length
  · have h3 := ff_hit h2
    rw [decide_eq_true (show ((ff (fun i => q0 es i == id) es.length : Nat) : Int) < (es.length : Int) by omega), decide_eq_true (show (0 : Int) ≤ ((ff (fun i => q0 es i == id) es.length : Nat) : Int) by omega), if_pos h2]
    have h4 : (intOf ((es.getD (ff (fun i => q0 es i == id) es.length) []).getD 0 AV.junk) == id) = true := h3
    simp only [h4]
    exact ⟨rfl, rfl⟩
  · rw [decide_eq_false (show ¬ ((ff (fun i => q0 es i == id) es.length : Nat) : Int) < (es.length : Int) by omega), if_neg h2]
    exact ⟨rfl, rfl⟩
theorem ends36b (hN : es.length ≤ 1000) : Ends (g36b_2 (tk, es, (es.length : Int), l, tk2, es2)) (n36b_2 (tk, es, (es.length : Int), l, tk2, es2)) (0 : Int) ((ff (fun i => decide (q3 es i ≥ l)) es.length : Nat) : Int) := by
  refine Ends.first _ _ (fun i hi => ?_) (fun i hi => nxt i _ hi hN)
  show go36b_2 tk es (es.length : Int) (i : Int) l tk2 es2 = _
  unfold go36b_2
  rw [Int.toNat_natCast]
  unfold vev35_0
  by_cases h : i < es.length
  · rw [decide_eq_true (show (i : Int) < (es.length : Int) by omega), decide_eq_true h, decide_eq_true (show (0 : Int) ≤ (i : Int) by omega)]
    show (bif decide (q3 es i ≥ l) then false else true) = _
    cases (decide (q3 es i ≥ l)) <;> rfl
  · rw [decide_eq_false (show ¬ (i : Int) < (es.length : Int) by omega), decide_eq_false h]
    rfl
theorem r36b (hN : es.length ≤ 1000) : vev36b_0 tk es l tk2 es2 = ix (fun i => decide (q3 es i ≥ l)) es.length ∧ vev36b_1 tk es l tk2 es2 = true := by
  have h := (ends36b (tk := tk) (l := l) (tk2 := tk2) (es2 := es2) hN).fin
  have h0 := ff_le (fun i => decide (q3 es i ≥ l)) es.length
  unfold vev36b_0 vev36b_1 rev36b_0
  simp only [spI]
  rw [h.2, h.1]
  unfold y36b_2 z36b_2 xc36b_2_0 xc36b_2_1 ix
  dsimp only
  rw [Int.toNat_natCast]
  unfold vev35_0
  by_cases h2 : ff (fun i => decide (q3 es i ≥ l)) es.length < es.length
  · have h3 := ff_hit h2
    rw [decide_eq_true (show ((ff (fun i => decide (q3 es i ≥ l)) es.length : Nat) : Int) < (es.length : Int) by omega), decide_eq_true (show (0 : Int) ≤ ((ff (fun i => decide (q3 es i ≥ l)) es.length : Nat) : Int) by omega), if_pos h2]
    have h4 : decide (intOf ((es.getD (ff (fun i => decide (q3 es i ≥ l)) es.length) []).getD 3 AV.junk) ≥ l) = true := h3
    simp only [Nat.zero_add, Nat.reduceAdd, h4]
    exact ⟨rfl, rfl⟩
  · rw [decide_eq_false (show ¬ ((ff (fun i => decide (q3 es i ≥ l)) es.length : Nat) : Int) < (es.length : Int) by omega), if_neg h2]
    exact ⟨rfl, rfl⟩
theorem ends36c (hN : es.length ≤ 1000) : Ends (g36c_2 (tk, es, (es.length : Int))) (n36c_2 (tk, es, (es.length : Int))) (0 : Int) ((ff (fun i => !vev28_0 (q0 es i) (q1 es i) (q2 es i) (q3 es i)) es.length : Nat) : Int) := by
  refine Ends.first _ _ (fun i hi => ?_) (fun i hi => nxt i _ hi hN)
  show go36c_2 tk es (es.length : Int) (i : Int) = _
  unfold go36c_2
  rw [Int.toNat_natCast]
  by_cases h : i < es.length
  · rw [decide_eq_true (show (i : Int) < (es.length : Int) by omega), decide_eq_true h, decide_eq_true (show (0 : Int) ≤ (i : Int) by omega)]
    show (bif !vev28_0 (q0 es i) (q1 es i) (q2 es i) (q3 es i) then false else true) = _
    cases (vev28_0 (q0 es i) (q1 es i) (q2 es i) (q3 es i)) <;> rfl
  · rw [decide_eq_false (show ¬ (i : Int) < (es.length : Int) by omega), decide_eq_false h]
    rfl
theorem r36c (hN : es.length ≤ 1000) : vev36c_0 tk es = ix (fun i => !vev28_0 (q0 es i) (q1 es i) (q2 es i) (q3 es i)) es.length ∧ vev36c_1 tk es = true := by
  have h := (ends36c (tk := tk) hN).fin
  have h0 := ff_le (fun i => !vev28_0 (q0 es i) (q1 es i) (q2 es i) (q3 es i)) es.length
  unfold vev36c_0 vev36c_1 rev36c_0
  simp only [spI]
  rw [h.2, h.1]
  unfold y36c_2 z36c_2 xc36c_2_0 xc36c_2_1 ix
  dsimp only
  rw [Int.toNat_natCast]
  by_cases h2 : ff (fun i => !vev28_0 (q0 es i) (q1 es i) (q2 es i) (q3 es i)) es.length < es.length
  · have h3 := ff_hit h2
    rw [decide_eq_true (show ((ff (fun i => !vev28_0 (q0 es i) (q1 es i) (q2 es i) (q3 es i)) es.length : Nat) : Int) < (es.length : Int) by omega), decide_eq_true (show (0 : Int) ≤ ((ff (fun i => !vev28_0 (q0 es i) (q1 es i) (q2 es i) (q3 es i)) es.length : Nat) : Int) by omega), if_pos h2]
    have h4 : (!vev28_0 (intOf ((es.getD (ff (fun i => !vev28_0 (q0 es i) (q1 es i) (q2 es i) (q3 es i)) es.length) []).getD 0 AV.junk)) (intOf ((es.getD (ff (fun i => !vev28_0 (q0 es i) (q1 es i) (q2 es i) (q3 es i)) es.length) []).getD (0 + 1) AV.junk)) (intOf ((es.getD (ff (fun i => !vev28_0 (q0 es i) (q1 es i) (q2 es i) (q3 es i)) es.length) []).getD (0 + 1 + 1) AV.junk)) (intOf ((es.getD (ff (fun i => !vev28_0 (q0 es i) (q1 es i) (q2 es i) (q3 es i)) es.length) []).getD (0 + 1 + 1 + 1) AV.junk))) = true := h3
    simp only [h4]
    exact ⟨rfl, rfl⟩
  · rw [decide_eq_false (show ¬ ((ff (fun i => !vev28_0 (q0 es i) (q1 es i) (q2 es i) (q3 es i)) es.length : Nat) : Int) < (es.length : Int) by omega), if_neg h2]
    exact ⟨rfl, rfl⟩
theorem r29 (hN : es.length ≤ 1000) : vev29_0 l tk es id = true := by
  unfold vev29_0
  rw [(r36a hN).2]
  rfl
/-- Some request is none that may be. -/
noncomputable def bad (es : List (List AV)) : Bool := decide (ff (fun i => !vev28_0 (q0 es i) (q1 es i) (q2 es i) (q3 es i)) es.length < es.length)
theorem r39 (hN : es.length ≤ 1000) : vev39_0 tk es = bad es ∧ vev39_1 tk es = true := by
  unfold vev39_0 vev39_1 bad
  rw [(r36c hN).1, (r36c hN).2]
  refine ⟨?_, rfl⟩
  have := ix_nonneg (fun i => !vev28_0 (q0 es i) (q1 es i) (q2 es i) (q3 es i)) es.length
  exact decide_eq_decide.2 this
/-- Two have one number. -/
noncomputable def dup (es : List (List AV)) (i : Nat) : Bool := decide (ix (fun j => q0 es j == q0 es i) es.length < (i : Int))
theorem ends24 (hN : es.length ≤ 1000) : Ends (g24_8 (tk, es, (es.length : Int), l, tk, es)) (n24_8 (tk, es, (es.length : Int), l, tk, es)) (0 : Int) ((ff (dup es) es.length : Nat) : Int) := by
  refine Ends.first _ _ (fun i hi => ?_) (fun i hi => nxt i _ hi hN)
  show go24_8 tk es (es.length : Int) (i : Int) l tk es = _
  unfold go24_8 rn24_8_1 rn24_8_0
  rw [Int.toNat_natCast, r29 hN, (r36a hN).1]
  by_cases h : i < es.length
  · rw [decide_eq_true (show (i : Int) < (es.length : Int) by omega), decide_eq_true h, decide_eq_true (show (0 : Int) ≤ (i : Int) by omega)]
    show (bif dup es i then false else true) = _
    cases (dup es i) <;> rfl
  · rw [decide_eq_false (show ¬ (i : Int) < (es.length : Int) by omega), decide_eq_false h]
    rfl
/-- What Check answers. -/
noncomputable def chk (l : Int) (es : List (List AV)) : Int := bif !vev34_0 l 1 1000 then 8 else bif decide (16 < es.length) then 7 else bif bad es then 8 else bif decide (ff (dup es) es.length < es.length) then 12 else 0
theorem r24 (hN : es.length ≤ 1000) : vev24_0 l tk es = chk l es ∧ vev24_1 l tk es = true := by
  have h := (ends24 (tk := tk) (l := l) hN).fin
  have h0 := ff_le (dup es) es.length
  unfold vev24_0 vev24_1 rev24_0 chk
  rw [(r39 hN).1, (r39 hN).2]
  simp only [spI]
  rw [h.2, h.1]
  unfold y24_8 z24_8 xc24_8_0 xc24_8_1 rn24_8_1 rn24_8_0
  dsimp only
  rw [Int.toNat_natCast, r29 hN, (r36a hN).1, show decide ((es.length : Int) > 16) = decide (16 < es.length) from decide_eq_decide.2 (by omega)]
  by_cases h2 : ff (dup es) es.length < es.length
  · have h3 := ff_hit h2
    have h4 : decide (ix (fun j => q0 es j == intOf ((es.getD (ff (dup es) es.length) []).getD 0 AV.junk)) es.length < ((ff (dup es) es.length : Nat) : Int)) = true := h3
    rw [decide_eq_true (show ((ff (dup es) es.length : Nat) : Int) < (es.length : Int) by omega), decide_eq_true (show (0 : Int) ≤ ((ff (dup es) es.length : Nat) : Int) by omega), decide_eq_true h2, h4]
    cases vev34_0 l 1 1000 <;> cases decide (16 < es.length) <;> cases bad es <;> exact ⟨rfl, rfl⟩
  · rw [decide_eq_false (show ¬ ((ff (dup es) es.length : Nat) : Int) < (es.length : Int) by omega), decide_eq_false h2]
    cases vev34_0 l 1 1000 <;> cases decide (16 < es.length) <;> cases bad es <;> exact ⟨rfl, rfl⟩
end Go.Proofs.Gv
