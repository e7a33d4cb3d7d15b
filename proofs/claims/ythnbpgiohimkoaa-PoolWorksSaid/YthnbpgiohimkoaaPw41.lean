import Derived.Test.YthnbpgiohimkoaaPw38
import Derived.Test.YthnbpgiohimkoaaPw39
import Derived.Test.YthnbpgiohimkoaaPw40
import Derived.Test.YthnbpgiohimkoaaPw30
set_option linter.unusedVariables false
namespace Go.Proofs.Gv
open Go.Proofs
theorem wrapOf (x : Int) (h0 : -9223372036854775808 ≤ x) (h1 : x ≤ 9223372036854775807) : IntKind.i64.wrap x = x := by
 rw [IntKind.wrap_i64]; omega
def ff (P : Nat → Bool) (N : Nat) : Nat := (List.range N).findIdx P
theorem ff_le (P : Nat → Bool) (N : Nat) : ff P N ≤ N := by
 have h := List.findIdx_le_length (p := P) (xs := List.range N)
 rw [List.length_range] at h
 exact h
theorem ff_hit {P : Nat → Bool} {N : Nat} (h : ff P N < N) : P (ff P N) = true := by
 have h1 : (List.range N).findIdx P < (List.range N).length := by rw [List.length_range]; exact h
 have h2 := List.findIdx_getElem (w := h1)
 rw [List.getElem_range] at h2
 exact h2
theorem ff_miss {P : Nat → Bool} {N j : Nat} (h : j < ff P N) : P j = false := by
 have h2 := List.not_of_lt_findIdx (p := P) (xs := List.range N) h
 rw [List.getElem_range] at h2
 simpa using h2
theorem ff_of {P : Nat → Bool} {N k : Nat} (h0 : k ≤ N) (h1 : k < N → P k = true) (h2 : ∀ j, j < k → P j = false) : ff P N = k := by
 have h3 := ff_le P N
 rcases Nat.lt_trichotomy (ff P N) k with h | h | h
 ·have := ff_hit (P := P) (N := N) (by omega)
  rw [h2 _ h] at this
  cases this
 ·exact h
 ·have := ff_miss h
  rw [h1 (by omega)] at this
  cases this
theorem Ends.first {go : Int → Bool} {next : Int → Int} (P : Nat → Bool) (N : Nat) (hg : ∀ i : Nat, i ≤ N → go (i : Int) = (decide (i < N) && !P i)) (hn : ∀ i : Nat, i < N → next (i : Int) = ((i + 1 : Nat) : Int)) : Ends go next (0 : Int) ((ff P N : Nat) : Int) := by
 have h := Ends.count (go := go) (next := next) (ff P N) (fun i => ((i : Nat) : Int)) (fun i hi => by
  have h1 := ff_le P N
  refine ⟨?_, hn i (by omega)⟩
  rw [hg i (by omega), decide_eq_true (show i < N by omega), ff_miss hi]
  rfl) (by
  have h1 := ff_le P N
  rw [hg _ h1]
  by_cases h2 : ff P N < N
  ·rw [ff_hit h2, Bool.not_true, Bool.and_false]
  ·rw [decide_eq_false h2, Bool.false_and])
 exact h
def ix (P : Nat → Bool) (N : Nat) : Int := if ff P N < N then (ff P N : Int) else -1
theorem ix_nonneg (P : Nat → Bool) (N : Nat) : (0 ≤ ix P N) ↔ ff P N < N := by
 unfold ix
 split <;> omega
def q0 (es : List (List AV)) (i : Nat) : Int := intOf ((es.getD i []).getD 0 .junk)
def q1 (es : List (List AV)) (i : Nat) : Int := intOf ((es.getD i []).getD 1 .junk)
def q2 (es : List (List AV)) (i : Nat) : Int := intOf ((es.getD i []).getD 2 .junk)
def q3 (es : List (List AV)) (i : Nat) : Int := intOf ((es.getD i []).getD 3 .junk)
theorem nxt (i N : Nat) (h : i < N) (hN : N ≤ 1000) : IntKind.i64.wrap ((i : Int) + 1) = ((i + 1 : Nat) : Int) := by
 rw [wrapOf _ (by omega) (by omega)]; rfl
theorem in2 {i N : Nat} (h : i < N) : (decide ((0 : Int) ≤ (i : Int)) && decide ((i : Int) < (N : Int))) = true := by
 rw [decide_eq_true (show (0 : Int) ≤ (i : Int) by omega), decide_eq_true (show (i : Int) < (N : Int) by omega)]; rfl
variable {tk tk2 : Tk} {es es2 : List (List AV)} {l id : Int}
theorem ends36a (hN : es.length ≤ 1000) : Ends (g107a_2 (tk, es, (es.length : Int), id)) (n107a_2 (tk, es, (es.length : Int), id)) (0 : Int) ((ff (fun i => q0 es i == id) es.length : Nat) : Int) := by
 refine Ends.first _ _ (fun i hi => ?_) (fun i hi => nxt i _ hi hN)
 show go107a_2 tk es (es.length : Int) (i : Int) id = _
 unfold go107a_2
 rw [Int.toNat_natCast]
 unfold vev108_0
 by_cases h : i < es.length
 ·rw [decide_eq_true (show (i : Int) < (es.length : Int) by omega), decide_eq_true h, decide_eq_true (show (0 : Int) ≤ (i : Int) by omega)]
  show (bif q0 es i == id then false else true) = _
  cases (q0 es i == id) <;> rfl
 ·rw [decide_eq_false (show ¬ (i : Int) < (es.length : Int) by omega), decide_eq_false h]
  rfl
theorem r36a (hN : es.length ≤ 1000) : vev107a_0 tk es id = ix (fun i => q0 es i == id) es.length ∧ vev107a_1 tk es id = true := by
 have h := (ends36a (tk := tk) (id := id) hN).fin
 have h0 := ff_le (fun i => q0 es i == id) es.length
 unfold vev107a_0 vev107a_1 rev107a_0
 simp only [spI]
 rw [h.2, h.1]
 unfold y107a_2 z107a_2 xc107a_2_0 xc107a_2_1 ix
 dsimp only
 rw [Int.toNat_natCast]
 unfold vev108_0
 by_cases h2 : ff (fun i => q0 es i == id) es.length < es.length
 ·have h3 := ff_hit h2
  rw [decide_eq_true (show ((ff (fun i => q0 es i == id) es.length : Nat) : Int) < (es.length : Int) by omega), decide_eq_true (show (0 : Int) ≤ ((ff (fun i => q0 es i == id) es.length : Nat) : Int) by omega), if_pos h2]
  have h4 : (intOf ((es.getD (ff (fun i => q0 es i == id) es.length) []).getD 0 AV.junk) == id) = true := h3
  simp only [h4]
  exact ⟨rfl, rfl⟩
 ·rw [decide_eq_false (show ¬ ((ff (fun i => q0 es i == id) es.length : Nat) : Int) < (es.length : Int) by omega), if_neg h2]
  exact ⟨rfl, rfl⟩
theorem ends36b (hN : es.length ≤ 1000) : Ends (g107b_2 (tk, es, (es.length : Int), l, tk2, es2)) (n107b_2 (tk, es, (es.length : Int), l, tk2, es2)) (0 : Int) ((ff (fun i => decide (q3 es i ≥ l)) es.length : Nat) : Int) := by
 refine Ends.first _ _ (fun i hi => ?_) (fun i hi => nxt i _ hi hN)
 show go107b_2 tk es (es.length : Int) (i : Int) l tk2 es2 = _
 unfold go107b_2
 rw [Int.toNat_natCast]
 unfold vev115_0
 by_cases h : i < es.length
 ·rw [decide_eq_true (show (i : Int) < (es.length : Int) by omega), decide_eq_true h, decide_eq_true (show (0 : Int) ≤ (i : Int) by omega)]
  show (bif decide (q3 es i ≥ l) then false else true) = _
  cases (decide (q3 es i ≥ l)) <;> rfl
 ·rw [decide_eq_false (show ¬ (i : Int) < (es.length : Int) by omega), decide_eq_false h]
  rfl
theorem r36b (hN : es.length ≤ 1000) : vev107b_0 tk es l tk2 es2 = ix (fun i => decide (q3 es i ≥ l)) es.length ∧ vev107b_1 tk es l tk2 es2 = true := by
 have h := (ends36b (tk := tk) (l := l) (tk2 := tk2) (es2 := es2) hN).fin
 have h0 := ff_le (fun i => decide (q3 es i ≥ l)) es.length
 unfold vev107b_0 vev107b_1 rev107b_0
 simp only [spI]
 rw [h.2, h.1]
 unfold y107b_2 z107b_2 xc107b_2_0 xc107b_2_1 ix
 dsimp only
 rw [Int.toNat_natCast]
 unfold vev115_0
 by_cases h2 : ff (fun i => decide (q3 es i ≥ l)) es.length < es.length
 ·have h3 := ff_hit h2
  rw [decide_eq_true (show ((ff (fun i => decide (q3 es i ≥ l)) es.length : Nat) : Int) < (es.length : Int) by omega), decide_eq_true (show (0 : Int) ≤ ((ff (fun i => decide (q3 es i ≥ l)) es.length : Nat) : Int) by omega), if_pos h2]
  have h4 : decide (intOf ((es.getD (ff (fun i => decide (q3 es i ≥ l)) es.length) []).getD 3 AV.junk) ≥ l) = true := h3
  simp only [Nat.zero_add, Nat.reduceAdd, h4]
  exact ⟨rfl, rfl⟩
 ·rw [decide_eq_false (show ¬ ((ff (fun i => decide (q3 es i ≥ l)) es.length : Nat) : Int) < (es.length : Int) by omega), if_neg h2]
  exact ⟨rfl, rfl⟩
theorem ends36c (hN : es.length ≤ 1000) : Ends (g107c_2 (tk, es, (es.length : Int))) (n107c_2 (tk, es, (es.length : Int))) (0 : Int) ((ff (fun i => !vev84_0 (q0 es i) (q1 es i) (q2 es i) (q3 es i)) es.length : Nat) : Int) := by
 refine Ends.first _ _ (fun i hi => ?_) (fun i hi => nxt i _ hi hN)
 show go107c_2 tk es (es.length : Int) (i : Int) = _
 unfold go107c_2
 rw [Int.toNat_natCast]
 by_cases h : i < es.length
 ·rw [decide_eq_true (show (i : Int) < (es.length : Int) by omega), decide_eq_true h, decide_eq_true (show (0 : Int) ≤ (i : Int) by omega)]
  show (bif !vev84_0 (q0 es i) (q1 es i) (q2 es i) (q3 es i) then false else true) = _
  cases (vev84_0 (q0 es i) (q1 es i) (q2 es i) (q3 es i)) <;> rfl
 ·rw [decide_eq_false (show ¬ (i : Int) < (es.length : Int) by omega), decide_eq_false h]
  rfl
theorem r36c (hN : es.length ≤ 1000) : vev107c_0 tk es = ix (fun i => !vev84_0 (q0 es i) (q1 es i) (q2 es i) (q3 es i)) es.length ∧ vev107c_1 tk es = true := by
 have h := (ends36c (tk := tk) hN).fin
 have h0 := ff_le (fun i => !vev84_0 (q0 es i) (q1 es i) (q2 es i) (q3 es i)) es.length
 unfold vev107c_0 vev107c_1 rev107c_0
 simp only [spI]
 rw [h.2, h.1]
 unfold y107c_2 z107c_2 xc107c_2_0 xc107c_2_1 ix
 dsimp only
 rw [Int.toNat_natCast]
 by_cases h2 : ff (fun i => !vev84_0 (q0 es i) (q1 es i) (q2 es i) (q3 es i)) es.length < es.length
 ·have h3 := ff_hit h2
  rw [decide_eq_true (show ((ff (fun i => !vev84_0 (q0 es i) (q1 es i) (q2 es i) (q3 es i)) es.length : Nat) : Int) < (es.length : Int) by omega), decide_eq_true (show (0 : Int) ≤ ((ff (fun i => !vev84_0 (q0 es i) (q1 es i) (q2 es i) (q3 es i)) es.length : Nat) : Int) by omega), if_pos h2]
  have h4 : (!vev84_0 (intOf ((es.getD (ff (fun i => !vev84_0 (q0 es i) (q1 es i) (q2 es i) (q3 es i)) es.length) []).getD 0 AV.junk)) (intOf ((es.getD (ff (fun i => !vev84_0 (q0 es i) (q1 es i) (q2 es i) (q3 es i)) es.length) []).getD (0 + 1) AV.junk)) (intOf ((es.getD (ff (fun i => !vev84_0 (q0 es i) (q1 es i) (q2 es i) (q3 es i)) es.length) []).getD (0 + 1 + 1) AV.junk)) (intOf ((es.getD (ff (fun i => !vev84_0 (q0 es i) (q1 es i) (q2 es i) (q3 es i)) es.length) []).getD (0 + 1 + 1 + 1) AV.junk))) = true := h3
  simp only [h4]
  exact ⟨rfl, rfl⟩
 ·rw [decide_eq_false (show ¬ ((ff (fun i => !vev84_0 (q0 es i) (q1 es i) (q2 es i) (q3 es i)) es.length : Nat) : Int) < (es.length : Int) by omega), if_neg h2]
  exact ⟨rfl, rfl⟩
theorem r29 (hN : es.length ≤ 1000) : vev85_0 l tk es id = true := by
 unfold vev85_0
 rw [(r36a hN).2]
 rfl
noncomputable def bad (es : List (List AV)) : Bool := decide (ff (fun i => !vev84_0 (q0 es i) (q1 es i) (q2 es i) (q3 es i)) es.length < es.length)
theorem r39 (hN : es.length ≤ 1000) : vev105_0 tk es = bad es ∧ vev105_1 tk es = true := by
 unfold vev105_0 vev105_1 bad
 rw [(r36c hN).1, (r36c hN).2]
 refine ⟨?_, rfl⟩
 have := ix_nonneg (fun i => !vev84_0 (q0 es i) (q1 es i) (q2 es i) (q3 es i)) es.length
 exact decide_eq_decide.2 this
noncomputable def dup (es : List (List AV)) (i : Nat) : Bool := decide (ix (fun j => q0 es j == q0 es i) es.length < (i : Int))
theorem ends24 (hN : es.length ≤ 1000) : Ends (g83_8 (tk, es, (es.length : Int), l, tk, es)) (n83_8 (tk, es, (es.length : Int), l, tk, es)) (0 : Int) ((ff (dup es) es.length : Nat) : Int) := by
 refine Ends.first _ _ (fun i hi => ?_) (fun i hi => nxt i _ hi hN)
 show go83_8 tk es (es.length : Int) (i : Int) l tk es = _
 unfold go83_8 rn83_8_1 rn83_8_0
 rw [Int.toNat_natCast, r29 hN, (r36a hN).1]
 by_cases h : i < es.length
 ·rw [decide_eq_true (show (i : Int) < (es.length : Int) by omega), decide_eq_true h, decide_eq_true (show (0 : Int) ≤ (i : Int) by omega)]
  show (bif dup es i then false else true) = _
  cases (dup es i) <;> rfl
 ·rw [decide_eq_false (show ¬ (i : Int) < (es.length : Int) by omega), decide_eq_false h]
  rfl
noncomputable def chk (l : Int) (es : List (List AV)) : Int := bif !vev80_0 l 1 1000 then 8 else bif decide (16 < es.length) then 7 else bif bad es then 8 else bif decide (ff (dup es) es.length < es.length) then 12 else 0
theorem r24 (hN : es.length ≤ 1000) : vev83_0 l tk es = chk l es ∧ vev83_1 l tk es = true := by
 have h := (ends24 (tk := tk) (l := l) hN).fin
 have h0 := ff_le (dup es) es.length
 unfold vev83_0 vev83_1 rev83_0 chk
 rw [(r39 hN).1, (r39 hN).2]
 simp only [spI]
 rw [h.2, h.1]
 unfold y83_8 z83_8 xc83_8_0 xc83_8_1 rn83_8_1 rn83_8_0
 dsimp only
 rw [Int.toNat_natCast, r29 hN, (r36a hN).1, show decide ((es.length : Int) > 16) = decide (16 < es.length) from decide_eq_decide.2 (by omega)]
 by_cases h2 : ff (dup es) es.length < es.length
 ·have h3 := ff_hit h2
  have h4 : decide (ix (fun j => q0 es j == intOf ((es.getD (ff (dup es) es.length) []).getD 0 AV.junk)) es.length < ((ff (dup es) es.length : Nat) : Int)) = true := h3
  rw [decide_eq_true (show ((ff (dup es) es.length : Nat) : Int) < (es.length : Int) by omega), decide_eq_true (show (0 : Int) ≤ ((ff (dup es) es.length : Nat) : Int) by omega), decide_eq_true h2, h4]
  cases vev80_0 l 1 1000 <;> cases decide (16 < es.length) <;> cases bad es <;> exact ⟨rfl, rfl⟩
 ·rw [decide_eq_false (show ¬ ((ff (dup es) es.length : Nat) : Int) < (es.length : Int) by omega), decide_eq_false h2]
  cases vev80_0 l 1 1000 <;> cases decide (16 < es.length) <;> cases bad es <;> exact ⟨rfl, rfl⟩
end Go.Proofs.Gv
namespace Go.Proofs.Gv
open Go.Proofs
variable {tk tk2 : Tk} {es es2 : List (List AV)} {l id : Int}
theorem r30 (a b c d : Int) : vev89_0 a b c d = vev84_0 a b c d := by
 unfold vev89_0 vev84_0 vev80_0
 have e : ∀ x y : Int, decide (x ≥ y) = decide (y ≤ x) := fun _ _ => rfl
 simp only [e]
 generalize decide (1 ≤ a) = c0
 generalize decide (a ≤ 2147483647) = c1
 generalize decide (0 ≤ b) = c2
 generalize decide (b ≤ 7) = c3
 generalize decide (1 ≤ c) = c4
 generalize decide (c ≤ 1099511627776) = c5
 generalize decide (0 ≤ d) = c6
 generalize decide (d ≤ 2000) = c7
 cases c0 <;> cases c1 <;> cases c2 <;> cases c3 <;> cases c4 <;> cases c5 <;> cases c6 <;> cases c7 <;> rfl
theorem ends31 (hN : es.length ≤ 1000) : Ends (g90_2 (id, l, tk, es)) (n90_2 (id, l, tk, es)) (0 : Int) ((ff (fun i => q0 es i == id) es.length : Nat) : Int) := by
 refine Ends.first _ _ (fun i hi => ?_) (fun i hi => nxt i _ hi hN)
 show go90_2 id (i : Int) l tk es = _
 unfold go90_2
 rw [Int.toNat_natCast]
 by_cases h : i < es.length
 ·rw [decide_eq_true (show (i : Int) < (es.length : Int) by omega), decide_eq_true h, decide_eq_true (show (0 : Int) ≤ (i : Int) by omega)]
  show (bif q0 es i == id then false else true) = _
  cases (q0 es i == id) <;> rfl
 ·rw [decide_eq_false (show ¬ (i : Int) < (es.length : Int) by omega), decide_eq_false h]
  rfl
theorem r31 (hN : es.length ≤ 1000) : vev90_0 l tk es id = ix (fun i => q0 es i == id) es.length ∧ vev90_1 l tk es id = true := by
 have h := (ends31 (tk := tk) (id := id) (l := l) hN).fin
 have h0 := ff_le (fun i => q0 es i == id) es.length
 unfold vev90_0 vev90_1 rev90_0
 simp only [spI]
 rw [h.2, h.1]
 unfold y90_2 z90_2 xc90_2_0 xc90_2_1 ix
 dsimp only
 rw [Int.toNat_natCast]
 by_cases h2 : ff (fun i => q0 es i == id) es.length < es.length
 ·have h3 := ff_hit h2
  rw [decide_eq_true (show ((ff (fun i => q0 es i == id) es.length : Nat) : Int) < (es.length : Int) by omega), decide_eq_true (show (0 : Int) ≤ ((ff (fun i => q0 es i == id) es.length : Nat) : Int) by omega), if_pos h2]
  have h4 : (intOf ((es.getD (ff (fun i => q0 es i == id) es.length) []).getD 0 AV.junk) == id) = true := h3
  simp only [h4]
  exact ⟨rfl, rfl⟩
 ·rw [decide_eq_false (show ¬ ((ff (fun i => q0 es i == id) es.length : Nat) : Int) < (es.length : Int) by omega), if_neg h2]
  exact ⟨rfl, rfl⟩
theorem dup_ne {i : Nat} (hi : i < es.length) : (ix (fun j => q0 es j == q0 es i) es.length != (i : Int)) = dup es i := by
 unfold dup
 have h1 : ff (fun j => q0 es j == q0 es i) es.length ≤ i := by
  rcases Nat.lt_or_ge i (ff (fun j => q0 es j == q0 es i) es.length) with h | h
  ·have := ff_miss h
   simp at this
  ·exact h
 have h2 : ix (fun j => q0 es j == q0 es i) es.length = ((ff (fun j => q0 es j == q0 es i) es.length : Nat) : Int) := by
  unfold ix
  rw [if_pos (by omega)]
 rw [h2]
 rcases Nat.lt_or_ge (ff (fun j => q0 es j == q0 es i) es.length) i with h | h
 ·rw [decide_eq_true (by omega)]
  simp
  omega
 ·rw [decide_eq_false (by omega)]
  have : ff (fun j => q0 es j == q0 es i) es.length = i := by omega
  rw [this]
  simp
theorem ends25a (hN : es.length ≤ 1000) : Ends (g88_6 (l, tk, es)) (n88_6 (l, tk, es)) (0 : Int) ((ff (fun i => !vev84_0 (q0 es i) (q1 es i) (q2 es i) (q3 es i)) es.length : Nat) : Int) := by
 refine Ends.first _ _ (fun i hi => ?_) (fun i hi => nxt i _ hi hN)
 show go88_6 (i : Int) l tk es = _
 unfold go88_6
 rw [Int.toNat_natCast, r30]
 by_cases h : i < es.length
 ·rw [decide_eq_true (show (i : Int) < (es.length : Int) by omega), decide_eq_true h, decide_eq_true (show (0 : Int) ≤ (i : Int) by omega)]
  show (bif !vev84_0 (q0 es i) (q1 es i) (q2 es i) (q3 es i) then false else true) = _
  cases (vev84_0 (q0 es i) (q1 es i) (q2 es i) (q3 es i)) <;> rfl
 ·rw [decide_eq_false (show ¬ (i : Int) < (es.length : Int) by omega), decide_eq_false h]
  rfl
theorem ends25b (hN : es.length ≤ 1000) : Ends (g88_11 (l, tk, es)) (n88_11 (l, tk, es)) (0 : Int) ((ff (dup es) es.length : Nat) : Int) := by
 refine Ends.first _ _ (fun i hi => ?_) (fun i hi => nxt i _ hi hN)
 show go88_11 (i : Int) l tk es = _
 unfold go88_11 rn88_11_0
 rw [Int.toNat_natCast, (r31 hN).1, (r31 hN).2]
 by_cases h : i < es.length
 ·rw [decide_eq_true (show (i : Int) < (es.length : Int) by omega), decide_eq_true h, decide_eq_true (show (0 : Int) ≤ (i : Int) by omega)]
  show (bif (ix (fun j => q0 es j == q0 es i) es.length != (i : Int)) then false else true) = _
  rw [dup_ne h]
  cases (dup es i) <;> rfl
 ·rw [decide_eq_false (show ¬ (i : Int) < (es.length : Int) by omega), decide_eq_false h]
  rfl
theorem x25a (hN : es.length ≤ 1000) : xc88_6_0 (rev88_0 l tk es) l tk es = bad es ∧ (spI g88_6 n88_6 y88_6 z88_6 d88_6 ((l, tk, es), (0 : Int))).fst = true := by
 have h := (ends25a (tk := tk) (l := l) hN).fin
 have h0 := ff_le (fun i => !vev84_0 (q0 es i) (q1 es i) (q2 es i) (q3 es i)) es.length
 unfold rev88_0 bad
 simp only [spI]
 rw [h.2, h.1]
 unfold y88_6 z88_6 xc88_6_0 xc88_6_1
 dsimp only
 rw [Int.toNat_natCast, r30]
 by_cases h2 : ff (fun i => !vev84_0 (q0 es i) (q1 es i) (q2 es i) (q3 es i)) es.length < es.length
 ·have h3 := ff_hit h2
  rw [decide_eq_true (show ((ff (fun i => !vev84_0 (q0 es i) (q1 es i) (q2 es i) (q3 es i)) es.length : Nat) : Int) < (es.length : Int) by omega), decide_eq_true (show (0 : Int) ≤ ((ff (fun i => !vev84_0 (q0 es i) (q1 es i) (q2 es i) (q3 es i)) es.length : Nat) : Int) by omega), decide_eq_true h2]
  generalize ff (fun i => !vev84_0 (q0 es i) (q1 es i) (q2 es i) (q3 es i)) es.length = k at h3
  have h4 : (!vev84_0 (intOf ((es.getD k []).getD 0 AV.junk)) (intOf ((es.getD k []).getD (0 + 1) AV.junk)) (intOf ((es.getD k []).getD (0 + 1 + 1) AV.junk)) (intOf ((es.getD k []).getD (0 + 1 + 1 + 1) AV.junk))) = true := h3
  simp only [h4]
  exact ⟨rfl, rfl⟩
 ·rw [decide_eq_false (show ¬ ((ff (fun i => !vev84_0 (q0 es i) (q1 es i) (q2 es i) (q3 es i)) es.length : Nat) : Int) < (es.length : Int) by omega), decide_eq_false h2]
  exact ⟨rfl, rfl⟩
theorem x25b (hN : es.length ≤ 1000) : xc88_11_0 (rev88_1 l tk es) l tk es = decide (ff (dup es) es.length < es.length) ∧ (spI g88_11 n88_11 y88_11 z88_11 d88_11 ((l, tk, es), (0 : Int))).fst = true := by
 have h := (ends25b (tk := tk) (l := l) hN).fin
 have h0 := ff_le (dup es) es.length
 unfold rev88_1
 simp only [spI]
 rw [h.2, h.1]
 unfold y88_11 z88_11 xc88_11_0 xc88_11_1 rn88_11_0
 dsimp only
 rw [Int.toNat_natCast, (r31 hN).1, (r31 hN).2]
 by_cases h2 : ff (dup es) es.length < es.length
 ·have h3 := ff_hit h2
  rw [decide_eq_true (show ((ff (dup es) es.length : Nat) : Int) < (es.length : Int) by omega), decide_eq_true (show (0 : Int) ≤ ((ff (dup es) es.length : Nat) : Int) by omega), decide_eq_true h2]
  rw [← dup_ne h2] at h3
  have h4 : (ix (fun j => q0 es j == intOf ((es.getD (ff (dup es) es.length) []).getD 0 AV.junk)) es.length != ((ff (dup es) es.length : Nat) : Int)) = true := h3
  rw [h4]
  exact ⟨rfl, rfl⟩
 ·rw [decide_eq_false (show ¬ ((ff (dup es) es.length : Nat) : Int) < (es.length : Int) by omega), decide_eq_false h2]
  exact ⟨rfl, rfl⟩
theorem lim_eq (l : Int) : (bif decide (l < 1) then true else decide (l > 1000)) = !vev80_0 l 1 1000 := by
 unfold vev80_0
 rw [show decide (l < 1) = !decide (1 ≤ l) by rw [← decide_not]; exact decide_eq_decide.2 (by omega), show decide (l > 1000) = !decide (l ≤ 1000) by rw [← decide_not]; exact decide_eq_decide.2 (by omega)]
 cases decide (1 ≤ l) <;> cases decide (l ≤ 1000) <;> rfl
theorem r25 (hN : es.length ≤ 1000) : vev88_0 l tk es = chk l es ∧ vev88_1 l tk es = true := by
 unfold vev88_0 vev88_1 chk
 rw [(x25a hN).1, (x25a hN).2, (x25b hN).1, (x25b hN).2, lim_eq, show decide ((es.length : Int) > 16) = decide (16 < es.length) from decide_eq_decide.2 (by omega)]
 cases vev80_0 l 1 1000 <;> cases decide (16 < es.length) <;> cases bad es <;> exact ⟨rfl, rfl⟩
end Go.Proofs.Gv
namespace Go.Proofs.Gv
open Go.Proofs
variable {tk tk2 : Tk} {es es2 : List (List AV)} {l l2 id : Int}
abbrev okQ (es : List (List AV)) : Prop := ∀ x ∈ es, okKL [.int .i64, .int .i64, .int .i64, .int .i64] x
theorem getD_mem {i : Nat} (hi : i < es.length) : es.getD i [] ∈ es := by
 rw [List.getD_eq_getElem?_getD, List.getElem?_eq_getElem hi]
 exact List.getElem_mem hi
noncomputable def df (es es2 : List (List AV)) (i : Nat) : Bool := !(q0 es i == q0 es2 i && (q1 es i == q1 es2 i && (q2 es i == q2 es2 i && (q3 es i == q3 es2 i && true))))
noncomputable def eqQ (es es2 : List (List AV)) : Bool := bif decide (es.length = es2.length) then !decide (ff (df es es2) es.length < es.length) else false
end Go.Proofs.Gv
namespace Go.Proofs.Gv
open Go.Proofs
variable {tk tk2 : Tk} {es es2 : List (List AV)} {l l2 id : Int}
def sm (es : List (List AV)) : Nat → Int
 | 0 => 0
 | i + 1 => IntKind.i64.wrap (sm es i + q2 es i)
theorem ends22 (hN : es.length ≤ 1000) : Ends (g74_5 (tk, es, (es.length : Int))) (n74_5 (tk, es, (es.length : Int))) ((0 : Int), (0 : Int)) (sm es es.length, (es.length : Int)) := by
 refine Ends.count (go := g74_5 (tk, es, (es.length : Int))) (next := n74_5 (tk, es, (es.length : Int))) es.length (fun i => (sm es i, (i : Int))) (fun i hi => ?_) ?_
 ·constructor
  ·show go74_5 (sm es i) tk es (es.length : Int) (i : Int) = true
   unfold go74_5
   rw [decide_eq_true (show (i : Int) < (es.length : Int) by omega), decide_eq_true (show (0 : Int) ≤ (i : Int) by omega)]
   rfl
  ·show (nx74_5_0 (sm es i) tk es (es.length : Int) (i : Int), nx74_5_4 (sm es i) tk es (es.length : Int) (i : Int)) = _
   unfold nx74_5_0 nx74_5_4
   rw [nxt i _ hi hN, Int.toNat_natCast]
   rfl
 ·show go74_5 (sm es es.length) tk es (es.length : Int) (es.length : Int) = false
  unfold go74_5
  rw [decide_eq_false (by omega)]
  rfl
noncomputable def lft (l : Int) (es : List (List AV)) : Int := bif chk l es == 0 then sm es es.length else 0
theorem r22 (hN : es.length ≤ 1000) : vev74_0 l tk es = lft l es ∧ vev74_1 l tk es = true := by
 have h := (ends22 (tk := tk) hN).fin
 unfold vev74_0 vev74_1 rev74_0 lft
 rw [(r24 hN).1, (r24 hN).2, show (chk l es != 0) = !(chk l es == 0) from rfl]
 simp only [spI]
 rw [h.2, h.1]
 unfold z74_5 xc74_5_0
 dsimp only
 rw [decide_eq_false (show ¬ (es.length : Int) < (es.length : Int) by omega)]
 cases (chk l es == 0) <;> exact ⟨rfl, rfl⟩
theorem go91 (t3 : Int) (i : Nat) (hN : es.length ≤ 1000) : go91_3 t3 (i : Int) l tk es = (decide (i < es.length) && chk l es == 0) := by
 unfold go91_3
 rw [(r25 hN).1, (r25 hN).2]
 by_cases h : i < es.length
 ·rw [decide_eq_true (show (i : Int) < (es.length : Int) by omega), decide_eq_true h, decide_eq_true (show (0 : Int) ≤ (i : Int) by omega)]
  cases (chk l es == 0) <;> rfl
 ·rw [decide_eq_false (show ¬ (i : Int) < (es.length : Int) by omega), decide_eq_false h]
  rfl
theorem ends23 (hN : es.length ≤ 1000) : Ends (g91_3 (l, tk, es)) (n91_3 (l, tk, es)) ((0 : Int), (0 : Int)) (bif chk l es == 0 then (sm es es.length, (es.length : Int)) else (0, 0)) := by
 cases hc : (chk l es == 0)
 ·refine Ends.stop ?_
  show go91_3 0 ((0 : Nat) : Int) l tk es = false
  rw [go91 _ _ hN, hc, Bool.and_false]
 ·refine Ends.count (go := g91_3 (l, tk, es)) (next := n91_3 (l, tk, es)) es.length (fun i => (sm es i, (i : Int))) (fun i hi => ?_) ?_
  ·constructor
   ·show go91_3 (sm es i) (i : Int) l tk es = true
    rw [go91 _ _ hN, hc, decide_eq_true hi]
    rfl
   ·show (nx91_3_0 (sm es i) (i : Int) l tk es, nx91_3_1 (sm es i) (i : Int) l tk es) = _
    unfold nx91_3_0 nx91_3_1
    rw [nxt i _ hi hN, Int.toNat_natCast]
    rfl
  ·show go91_3 (sm es es.length) (es.length : Int) l tk es = false
   rw [go91 _ _ hN, decide_eq_false (by omega)]
   rfl
theorem r23 (hN : es.length ≤ 1000) : vev91_0 l tk es = lft l es ∧ vev91_1 l tk es = true := by
 have h := (ends23 (tk := tk) (l := l) hN).fin
 unfold vev91_0 vev91_1 rev91_0 lft
 simp only [spI]
 rw [h.2, h.1]
 unfold z91_3 xc91_3_0
 dsimp only
 rw [(r25 hN).1, (r25 hN).2]
 cases hc : (chk l es == 0)
 ·dsimp only [cond_false]
  cases decide ((0 : Int) < (es.length : Int)) <;> exact ⟨rfl, rfl⟩
 ·dsimp only [cond_true]
  rw [decide_eq_false (show ¬ (es.length : Int) < (es.length : Int) by omega)]
  exact ⟨rfl, rfl⟩
end Go.Proofs.Gv
namespace Go.Proofs.Gv
open Go.Proofs
variable {tk tk2 : Tk} {es es2 : List (List AV)} {l l2 id : Int}
structure Good (l : Int) (es : List (List AV)) : Prop where
 lim : 1 ≤ l ∧ l ≤ 1000
 len : es.length ≤ 16
 fit : ∀ i, i < es.length → vev84_0 (q0 es i) (q1 es i) (q2 es i) (q3 es i) = true
 one : ∀ i j, i < es.length → j < es.length → q0 es j = q0 es i → j = i
theorem in80 (n a b : Int) : (vev80_0 n a b = true) ↔ (a ≤ n ∧ n ≤ b) := by
 unfold vev80_0
 by_cases h : a ≤ n
 ·rw [decide_eq_true h]
  by_cases h2 : n ≤ b
  ·rw [decide_eq_true h2]; simp [h, h2]
  ·rw [decide_eq_false h2]; simp [h2]
 ·rw [decide_eq_false h]; simp [h]
theorem fits {a b c d : Int} : (vev84_0 a b c d = true) ↔ ((1 ≤ a ∧ a ≤ 2147483647) ∧ (0 ≤ b ∧ b ≤ 7) ∧ (1 ≤ c ∧ c ≤ 1099511627776) ∧ (0 ≤ d ∧ d ≤ 2000)) := by
 rw [← in80 a, ← in80 b, ← in80 c, ← in80 d]
 unfold vev84_0
 cases vev80_0 a 1 2147483647 <;> cases vev80_0 b 0 7 <;> cases vev80_0 c 1 1099511627776 <;> cases vev80_0 d 0 2000 <;> simp
theorem chk_good (h : chk l es = 0) : Good l es := by
 unfold chk at h
 cases h1 : vev80_0 l 1 1000 with
 | false => rw [h1] at h; cases h
 | true =>
   rw [h1] at h
   cases h2 : decide (16 < es.length) with
   | true => rw [h2] at h; cases h
   | false =>
     rw [h2] at h
     cases h3 : bad es with
     | true => rw [h3] at h; cases h
     | false =>
       rw [h3] at h
       cases h4 : decide (ff (dup es) es.length < es.length) with
       | true => rw [h4] at h; cases h
       | false =>
         have h2 := of_decide_eq_false h2
         have h4 := of_decide_eq_false h4
         unfold bad at h3
         have h3 := of_decide_eq_false h3
         have k1 := ff_le (dup es) es.length
         have k2 := ff_le (fun i => !vev84_0 (q0 es i) (q1 es i) (q2 es i) (q3 es i)) es.length
         have nd : ∀ i j, i < es.length → j < i → q0 es j ≠ q0 es i := fun i j hi hj he => by
          have k3 := ff_miss (P := dup es) (N := es.length) (j := i) (by omega)
          rw [← dup_ne hi] at k3
          have k4 : ix (fun j => q0 es j == q0 es i) es.length = (i : Int) := by simpa using k3
          have k5 := (ix_nonneg (fun j => q0 es j == q0 es i) es.length).1 (by omega)
          have k6 : ff (fun j => q0 es j == q0 es i) es.length = i := by
           unfold ix at k4
           rw [if_pos k5] at k4
           omega
          have k7 := ff_miss (P := fun j => q0 es j == q0 es i) (N := es.length) (j := j) (by omega)
          simp [he] at k7
         refine ⟨(in80 _ _ _).1 h1, by omega, fun i hi => ?_, fun i j hi hj he => ?_⟩
         ·have k3 := ff_miss (P := fun i => !vev84_0 (q0 es i) (q1 es i) (q2 es i) (q3 es i)) (N := es.length) (j := i) (by omega)
          simpa using k3
         ·rcases Nat.lt_trichotomy i j with h | h | h
          ·exact absurd he.symm (nd j i hj h)
          ·exact h.symm
          ·exact absurd he (nd i j hi h)
theorem Good.place (g : Good l es) {k : Nat} (hk : k < es.length) : ix (fun j => q0 es j == q0 es k) es.length = (k : Int) := by
 have h : ff (fun j => q0 es j == q0 es k) es.length = k := ff_of (by omega) (fun _ => by simp) (fun j hj => by
  have : ¬ q0 es j = q0 es k := fun he => by
   have := g.one k j hk (by omega) he
   omega
  simp [this])
 unfold ix
 rw [h, if_pos hk]
def amN (es : List (List AV)) : Nat → Nat
 | 0 => 0
 | i + 1 => if q1 es (i + 1) < q1 es (amN es i) then i + 1 else amN es i
theorem amN_le (es : List (List AV)) : ∀ i, amN es i ≤ i
 | 0 => Nat.le_refl _
 | i + 1 => by
   have := amN_le es i
   unfold amN
   split <;> omega
theorem ends37 (g : Good l es) (h0 : 0 < es.length) : Ends (g116_5 (tk, es, (0 : Int), (0 : Int), (0 : Int), (0 : Int))) (n116_5 (tk, es, (0 : Int), (0 : Int), (0 : Int), (0 : Int))) ((1 : Int), q0 es 0, q1 es 0, q2 es 0, q3 es 0) ((es.length : Int), q0 es (amN es (es.length - 1)), q1 es (amN es (es.length - 1)), q2 es (amN es (es.length - 1)), q3 es (amN es (es.length - 1))) := by
 have h := Ends.count (go := g116_5 (tk, es, (0 : Int), (0 : Int), (0 : Int), (0 : Int))) (next := n116_5 (tk, es, (0 : Int), (0 : Int), (0 : Int), (0 : Int))) (es.length - 1) (fun i => (((i + 1 : Nat) : Int), q0 es (amN es i), q1 es (amN es i), q2 es (amN es i), q3 es (amN es i))) (fun i hi => by
  have hl := g.len
  constructor
  ·show go116_5 tk es ((i + 1 : Nat) : Int) _ _ _ _ 0 0 0 0 = true
   unfold go116_5
   rw [decide_eq_true (show ((i + 1 : Nat) : Int) < (es.length : Int) by omega), decide_eq_true (show (0 : Int) ≤ ((i + 1 : Nat) : Int) by omega)]
   rfl
  ·have ha := amN_le es i
   have f1 := fits.1 (g.fit (i + 1) (by omega))
   have f2 := fits.1 (g.fit (amN es i) (by omega))
   have hw : IntKind.i64.wrap (q1 es (i + 1) - q1 es (amN es i)) = q1 es (i + 1) - q1 es (amN es i) := wrapOf _ (by omega) (by omega)
   have hn : IntKind.i64.wrap (((i + 1 : Nat) : Int) + 1) = ((i + 1 + 1 : Nat) : Int) := nxt (i + 1) es.length (by omega) (by omega)
   show (nx116_5_2 tk es ((i + 1 : Nat) : Int) (q0 es (amN es i)) (q1 es (amN es i)) (q2 es (amN es i)) (q3 es (amN es i)) 0 0 0 0, nx116_5_3 tk es ((i + 1 : Nat) : Int) (q0 es (amN es i)) (q1 es (amN es i)) (q2 es (amN es i)) (q3 es (amN es i)) 0 0 0 0, nx116_5_4 tk es ((i + 1 : Nat) : Int) (q0 es (amN es i)) (q1 es (amN es i)) (q2 es (amN es i)) (q3 es (amN es i)) 0 0 0 0, nx116_5_5 tk es ((i + 1 : Nat) : Int) (q0 es (amN es i)) (q1 es (amN es i)) (q2 es (amN es i)) (q3 es (amN es i)) 0 0 0 0, nx116_5_6 tk es ((i + 1 : Nat) : Int) (q0 es (amN es i)) (q1 es (amN es i)) (q2 es (amN es i)) (q3 es (amN es i)) 0 0 0 0) = _
   have hr : rn116_5_4 tk es ((i + 1 : Nat) : Int) (q0 es (amN es i)) (q1 es (amN es i)) (q2 es (amN es i)) (q3 es (amN es i)) 0 0 0 0 = q1 es (i + 1) - q1 es (amN es i) := by
    unfold rn116_5_4 rn116_5_1 vev117_0
    rw [Int.toNat_natCast]
    exact hw
   unfold nx116_5_2 nx116_5_3 nx116_5_4 nx116_5_5 nx116_5_6 rn116_5_0 rn116_5_1 rn116_5_2 rn116_5_3
   rw [hn, hr, Int.toNat_natCast]
   by_cases hc : q1 es (i + 1) < q1 es (amN es i)
   ·have e : amN es (i + 1) = i + 1 := by show (if _ then _ else _) = _; rw [if_pos hc]
    rw [decide_eq_true (by omega), e]
    rfl
   ·have e : amN es (i + 1) = amN es i := by show (if _ then _ else _) = _; rw [if_neg hc]
    rw [decide_eq_false (by omega), e]
    rfl) (by
  show go116_5 tk es ((es.length - 1 + 1 : Nat) : Int) _ _ _ _ 0 0 0 0 = false
  unfold go116_5
  rw [decide_eq_false (by omega)]
  rfl)
 rw [show es.length - 1 + 1 = es.length by omega] at h
 exact h
theorem r37 (g : Good l es) (h0 : 0 < es.length) : vev116_0 tk es = q0 es (amN es (es.length - 1)) ∧ vev116_4 tk es = true := by
 have h := (ends37 (tk := tk) g h0).fin
 have h1 : rev116_0 tk es = ((es.length : Int), q0 es (amN es (es.length - 1)), q1 es (amN es (es.length - 1)), q2 es (amN es (es.length - 1)), q3 es (amN es (es.length - 1))) := h.2
 unfold vev116_0 vev116_4
 rw [h1]
 refine ⟨rfl, ?_⟩
 rw [decide_eq_false (show ¬ (es.length : Int) < 1 by omega), decide_eq_true (show (0 : Int) < (es.length : Int) by omega)]
 have h2 : (spI g116_5 n116_5 y116_5 z116_5 d116_5 ((tk, es, (0 : Int), (0 : Int), (0 : Int), (0 : Int)), (1 : Int), q0 es 0, q1 es 0, q2 es 0, q3 es 0)).fst = true := by
  simp only [spI]
  rw [h.2, h.1]
  unfold z116_5 xc116_5_0
  dsimp only
  rw [decide_eq_false (by omega)]
  rfl
 show (bif (spI g116_5 n116_5 y116_5 z116_5 d116_5 ((tk, es, (0 : Int), (0 : Int), (0 : Int), (0 : Int)), (1 : Int), q0 es 0, q1 es 0, q2 es 0, q3 es 0)).fst then true else false) = true
 rw [h2]
 rfl
end Go.Proofs.Gv
namespace Go.Proofs.Gv
open Go.Proofs
variable {tk tk2 : Tk} {es es2 : List (List AV)} {l l2 id : Int}
noncomputable def nx (l : Int) (es : List (List AV)) : Int := bif chk l es != 0 then -1 else bif decide (ff (fun i => decide (q3 es i ≥ l)) es.length < es.length) then ((ff (fun i => decide (q3 es i ≥ l)) es.length : Nat) : Int) else bif decide (0 < es.length) then ((amN es (es.length - 1) : Nat) : Int) else -1
theorem r20 (hN : es.length ≤ 1000) : vev100_0 l tk es = nx l es ∧ vev100_1 l tk es = true := by
 unfold vev100_0 vev100_1 nx
 rw [(r24 hN).1, (r24 hN).2, (r36b hN).1, (r36b hN).2, r29 hN]
 cases hc : (chk l es != 0) with
 | true =>
   cases ((es.length : Int) == 0) <;> exact ⟨rfl, rfl⟩
 | false =>
   have g : Good l es := chk_good (by simpa using hc)
   have hi := ix_nonneg (fun i => decide (q3 es i ≥ l)) es.length
   have h0 := ff_le (fun i => decide (q3 es i ≥ l)) es.length
   by_cases hz : 0 < es.length
   ·rw [show ((es.length : Int) == 0) = false by simp; intro h; subst h; simp at hz, decide_eq_true hz]
    by_cases h2 : ff (fun i => decide (q3 es i ≥ l)) es.length < es.length
    ·rw [decide_eq_true (show ix (fun i => decide (q3 es i ≥ l)) es.length ≥ 0 from hi.2 h2), decide_eq_true h2]
     refine ⟨?_, rfl⟩
     show ix (fun i => decide (q3 es i ≥ l)) es.length = _
     unfold ix
     rw [if_pos h2]
     rfl
    ·rw [decide_eq_false (show ¬ ix (fun i => decide (q3 es i ≥ l)) es.length ≥ 0 from fun h => h2 (hi.1 h)), decide_eq_false h2, (r37 g hz).1, (r37 g hz).2, (r36a hN).1, g.place (show amN es (es.length - 1) < es.length by have := amN_le es (es.length - 1); omega)]
     exact ⟨rfl, rfl⟩
   ·have hz' : es.length = 0 := by omega
    rw [hz']
    refine ⟨?_, rfl⟩
    rw [decide_eq_false (show ¬ ff (fun i => decide (q3 es i ≥ l)) 0 < 0 by omega)]
    rfl
theorem ends21a (hN : es.length ≤ 1000) : Ends (g102_4 (l, tk, es)) (n102_4 (l, tk, es)) (0 : Int) ((ff (fun i => decide (q3 es i ≥ l)) es.length : Nat) : Int) := by
 refine Ends.first _ _ (fun i hi => ?_) (fun i hi => nxt i _ hi hN)
 show go102_4 (i : Int) l tk es = _
 unfold go102_4 rn102_4_0
 rw [Int.toNat_natCast]
 by_cases h : i < es.length
 ·rw [decide_eq_true (show (i : Int) < (es.length : Int) by omega), decide_eq_true h, decide_eq_true (show (0 : Int) ≤ (i : Int) by omega)]
  show (bif decide (q3 es i ≥ l) then false else true) = _
  cases decide (q3 es i ≥ l) <;> rfl
 ·rw [decide_eq_false (show ¬ (i : Int) < (es.length : Int) by omega), decide_eq_false h]
  rfl
def amI (es : List (List AV)) : Nat → Int
 | 0 => -1
 | i + 1 => ((amN es i : Nat) : Int)
theorem ends21b (hN : es.length ≤ 1000) : Ends (g102_10 (l, tk, es)) (n102_10 (l, tk, es)) ((-1 : Int), (0 : Int)) (amI es es.length, (es.length : Int)) := by
 refine Ends.count (go := g102_10 (l, tk, es)) (next := n102_10 (l, tk, es)) es.length (fun i => (amI es i, (i : Int))) (fun i hi => ?_) ?_
 ·have hn := nxt i es.length hi hN
  cases i with
  | zero =>
    constructor
    ·show go102_10 (-1) ((0 : Nat) : Int) l tk es = true
     unfold go102_10
     rw [decide_eq_true (show ((0 : Nat) : Int) < (es.length : Int) by omega)]
     rfl
    ·show (nx102_10_0 (-1) ((0 : Nat) : Int) l tk es, nx102_10_1 (-1) ((0 : Nat) : Int) l tk es) = _
     unfold nx102_10_0 nx102_10_1
     rw [hn]
     rfl
  | succ i =>
    have ha := amN_le es i
    constructor
    ·show go102_10 ((amN es i : Nat) : Int) ((i + 1 : Nat) : Int) l tk es = true
     unfold go102_10
     rw [decide_eq_true (show ((i + 1 : Nat) : Int) < (es.length : Int) by omega), decide_eq_false (show ¬ ((amN es i : Nat) : Int) < 0 by omega), decide_eq_true (show (0 : Int) ≤ ((i + 1 : Nat) : Int) by omega), decide_eq_true (show (0 : Int) ≤ ((amN es i : Nat) : Int) by omega), decide_eq_true (show ((amN es i : Nat) : Int) < (es.length : Int) by omega)]
     rfl
    ·show (nx102_10_0 ((amN es i : Nat) : Int) ((i + 1 : Nat) : Int) l tk es, nx102_10_1 ((amN es i : Nat) : Int) ((i + 1 : Nat) : Int) l tk es) = _
     unfold nx102_10_0 nx102_10_1 rn102_10_0 rn102_10_1
     rw [hn, decide_eq_true (show ((i + 1 : Nat) : Int) < (es.length : Int) by omega), decide_eq_false (show ¬ ((amN es i : Nat) : Int) < 0 by omega), decide_eq_true (show (0 : Int) ≤ ((i + 1 : Nat) : Int) by omega), decide_eq_true (show (0 : Int) ≤ ((amN es i : Nat) : Int) by omega), decide_eq_true (show ((amN es i : Nat) : Int) < (es.length : Int) by omega), Int.toNat_natCast, Int.toNat_natCast]
     refine Prod.ext ?_ rfl
     show (bif decide (q1 es (i + 1) < q1 es (amN es i)) then ((i + 1 : Nat) : Int) else ((amN es i : Nat) : Int)) = ((amN es (i + 1) : Nat) : Int)
     by_cases hc : q1 es (i + 1) < q1 es (amN es i)
     ·have e : amN es (i + 1) = i + 1 := by show (if _ then _ else _) = _; rw [if_pos hc]
      rw [decide_eq_true hc, e]
      rfl
     ·have e : amN es (i + 1) = amN es i := by show (if _ then _ else _) = _; rw [if_neg hc]
      rw [decide_eq_false hc, e]
      rfl
 ·show go102_10 (amI es es.length) (es.length : Int) l tk es = false
  unfold go102_10
  rw [decide_eq_false (by omega)]
  rfl
theorem r21 (hN : es.length ≤ 1000) : vev102_0 l tk es = nx l es ∧ vev102_1 l tk es = true := by
 have ha := (ends21a (tk := tk) (l := l) hN).fin
 have hb := (ends21b (tk := tk) (l := l) hN).fin
 have h0 := ff_le (fun i => decide (q3 es i ≥ l)) es.length
 unfold vev102_0 vev102_1 nx rev102_0 rev102_1
 simp only [spI]
 rw [(r25 hN).1, (r25 hN).2, ha.1, ha.2, hb.1, hb.2]
 unfold y102_4 z102_4 z102_10 xc102_4_0 xc102_4_1 xc102_10_0 rn102_4_0
 dsimp only
 rw [Int.toNat_natCast, decide_eq_false (show ¬ (es.length : Int) < (es.length : Int) by omega)]
 cases hc : (chk l es != 0) with
 | true => exact ⟨rfl, rfl⟩
 | false =>
   by_cases h2 : ff (fun i => decide (q3 es i ≥ l)) es.length < es.length
   ·have h3 := ff_hit h2
    rw [decide_eq_true (show ((ff (fun i => decide (q3 es i ≥ l)) es.length : Nat) : Int) < (es.length : Int) by omega), decide_eq_true (show (0 : Int) ≤ ((ff (fun i => decide (q3 es i ≥ l)) es.length : Nat) : Int) by omega), decide_eq_true h2]
    generalize ff (fun i => decide (q3 es i ≥ l)) es.length = k at h3
    have h4 : decide (intOf ((es.getD k []).getD (0 + 1 + 1 + 1) AV.junk) ≥ l) = true := h3
    simp only [h4]
    exact ⟨rfl, rfl⟩
   ·rw [decide_eq_false (show ¬ ((ff (fun i => decide (q3 es i ≥ l)) es.length : Nat) : Int) < (es.length : Int) by omega), decide_eq_false h2]
    refine ⟨?_, rfl⟩
    show amI es es.length = _
    cases hl : es.length with
    | zero => rfl
    | succ k => rfl
end Go.Proofs.Gv
namespace Go.Proofs.Gv
open Go.Proofs
variable {tk tk2 : Tk} {es es2 : List (List AV)} {l l2 id rank cost : Int}
theorem r27 (hN : es.length ≤ 1000) : vev82_0 l tk es = true := by
 unfold vev82_0
 rw [show (es.length * 32).ble 140737488355328 = true from Nat.ble_eq_true_of_le (by omega)]
 rfl
theorem r10 (hN : es.length ≤ 1000) : vev47_0 l es id rank cost = vev51_0 l es id rank cost ∧ vev47_1 l es id rank cost = vev51_1 l es id rank cost ∧ vev47_2 l es id rank cost = true ∧ vev51_2 l es id rank cost = true := by
 unfold vev47_0 vev47_1 vev47_2 vev51_0 vev51_1 vev51_2
 rw [(r24 hN).1, (r24 hN).2, (r25 hN).1, (r25 hN).2, r27 hN, r29 hN, (r31 hN).1, (r31 hN).2, (r36a hN).1, r30, decide_eq_true (show es.length * 32 ≤ 140737488355328 by omega), decide_eq_true (show es.length ≤ 9223372036854775807 by omega),
  decide_eq_true (show (es.length + (rev47_0 l es id rank cost).length) * 32 ≤ 140737488355328 by show (es.length + 1) * 32 ≤ _; omega), decide_eq_true (show es.length + (rev47_0 l es id rank cost).length ≤ 9223372036854775807 by show es.length + 1 ≤ _; omega),
  decide_eq_true (show (es.length + (rev51_0 l es id rank cost).length) * 32 ≤ 140737488355328 by show (es.length + 1) * 32 ≤ _; omega), decide_eq_true (show es.length + (rev51_0 l es id rank cost).length ≤ 9223372036854775807 by show es.length + 1 ≤ _; omega),
  show rev47_0 l es id rank cost = rev51_0 l es id rank cost from rfl]
 cases (chk l es != 0) <;> cases vev84_0 id rank cost 0 <;> cases decide (ix (fun i => q0 es i == id) es.length ≥ 0) <;> cases decide ((es.length : Int) ≥ 16) <;> exact ⟨rfl, rfl, rfl, rfl⟩
def wo (es : List (List AV)) (k : Nat) : List (List AV) := es.take k ++ es.drop (k + 1)
theorem r33 {k : Nat} (hk : k < es.length) (hN : es.length ≤ 1000) : vev98_0 l es (k : Int) = wo es k ∧ vev98_1 l es (k : Int) = true := by
 have e0 : rev98_0 l es (k : Int) = ((k + 1 : Nat) : Int) := nxt k _ hk hN
 have e1 : rev98_1 l es (k : Int) = es.drop (k + 1) := by unfold rev98_1; rw [e0, Int.toNat_natCast]
 unfold vev98_0 vev98_1
 rw [e1, e0, Int.toNat_natCast]
 have l1 : (es.take k).length = k := by rw [List.length_take]; omega
 have l2 : (es.drop (k + 1)).length = es.length - (k + 1) := List.length_drop ..
 refine ⟨rfl, ?_⟩
 rw [l1, l2, show bnd 0 (k : Int) (es.length : Int) = true from by simp [bnd]; omega, show bnd ((k + 1 : Nat) : Int) (es.length : Int) (es.length : Int) = true from by simp [bnd]; omega,
  decide_eq_true (show k * 32 ≤ 140737488355328 by omega), decide_eq_true (show k ≤ 9223372036854775807 by omega), decide_eq_true (show (k + (es.length - (k + 1))) * 32 ≤ 140737488355328 by omega), decide_eq_true (show k + (es.length - (k + 1)) ≤ 9223372036854775807 by omega)]
 rfl
theorem del_eq {k : Nat} (hk : k < es.length) (z : List AV) : List.take (k + (es.length - (k + 1))) (List.drop 0 (List.take k es ++ List.drop (k + 1) es ++ List.replicate (k + 1 - k) z)) = wo es k := by
 have l1 : (es.take k).length = k := by rw [List.length_take]; omega
 have l2 : (es.take k ++ es.drop (k + 1)).length = k + (es.length - (k + 1)) := by rw [List.length_append, List.length_drop, l1]
 rw [List.drop_zero, List.take_left' l2]
 rfl
end Go.Proofs.Gv
namespace Go.Proofs.Gv
open Go.Proofs
variable {tk tk2 : Tk} {es es2 : List (List AV)} {l l2 id rank cost q : Int}
def mn (x : Int) : Int := if x < 2000 then x else 2000
theorem mn_a (x : Int) : (if if false = true then x < (2000 : Int) else (2000 : Int) < x then (2000 : Int) else x) = mn x := by
 unfold mn
 simp only [Bool.false_eq_true, if_false]
 split <;> split <;> omega
theorem mn_b (x : Int) : (if if false = true then (2000 : Int) < x else x < (2000 : Int) then x else (2000 : Int)) = mn x := by
 unfold mn
 simp only [Bool.false_eq_true, if_false]
theorem mq_a (x q : Int) : (if if false = true then x < q else q < x then q else x) = (if if false = true then q < x else x < q then x else q) := by
 simp only [Bool.false_eq_true, if_false]
 split <;> split <;> omega
def st3 (b : List (List AV)) (i : Nat) : List (List AV) := b.set i [.int .i64 (q0 b i), .int .i64 (q1 b i), .int .i64 (q2 b i), .int .i64 (mn (IntKind.i64.wrap (q3 b i + 1)))]
def ag (es : List (List AV)) : Nat → List (List AV)
 | 0 => es
 | i + 1 => st3 (ag es i) i
theorem ag_len (es : List (List AV)) : ∀ i, (ag es i).length = es.length
 | 0 => rfl
 | i + 1 => by
   show (st3 (ag es i) i).length = _
   unfold st3
   rw [List.length_set, ag_len es i]
theorem ends14 {k : Nat} (hk : k ≤ es.length) (hN : es.length ≤ 1000) : Ends (g67_5 (q, (k : Int), (k : Int), l, 0, 0, 0, 0, 0)) (n67_5 (q, (k : Int), (k : Int), l, 0, 0, 0, 0, 0)) ((0 : Int), es) ((k : Int), ag es k) := by
 refine Ends.count (go := g67_5 (q, (k : Int), (k : Int), l, 0, 0, 0, 0, 0)) (next := n67_5 (q, (k : Int), (k : Int), l, 0, 0, 0, 0, 0)) k (fun i => ((i : Int), ag es i)) (fun i hi => ?_) ?_
 ·have hl := ag_len es i
  constructor
  ·show go67_5 q (k : Int) (k : Int) (i : Int) l 0 0 0 0 0 (ag es i) = true
   unfold go67_5
   rw [hl, decide_eq_true (show (i : Int) < (k : Int) by omega), decide_eq_true (show (0 : Int) ≤ (i : Int) by omega), decide_eq_true (show (i : Int) < (es.length : Int) by omega)]
   rfl
  ·show (nx67_5_3 q (k : Int) (k : Int) (i : Int) l 0 0 0 0 0 (ag es i), nx67_5_10 q (k : Int) (k : Int) (i : Int) l 0 0 0 0 0 (ag es i)) = _
   unfold nx67_5_3 nx67_5_10 rn67_5_0
   rw [nxt i k hi (by omega), Int.toNat_natCast, mn_a]
   rfl
 ·show go67_5 q (k : Int) (k : Int) (k : Int) l 0 0 0 0 0 (ag es k) = false
  unfold go67_5
  rw [decide_eq_false (by omega)]
  rfl
theorem ends15 {k : Nat} (hk : k ≤ es.length) (hN : es.length ≤ 1000) : Ends (g70_7 (q, (k : Int), l, es, 0, 0, 0, 0, 0)) (n70_7 (q, (k : Int), l, es, 0, 0, 0, 0, 0)) ((0 : Int), es) ((k : Int), ag es k) := by
 refine Ends.count (go := g70_7 (q, (k : Int), l, es, 0, 0, 0, 0, 0)) (next := n70_7 (q, (k : Int), l, es, 0, 0, 0, 0, 0)) k (fun i => ((i : Int), ag es i)) (fun i hi => ?_) ?_
 ·have hl := ag_len es i
  constructor
  ·show go70_7 q (k : Int) (i : Int) l es 0 0 0 0 0 (ag es i) = true
   unfold go70_7
   rw [hl, decide_eq_true (show (i : Int) < (k : Int) by omega), decide_eq_true (show (0 : Int) ≤ (i : Int) by omega), decide_eq_true (show (i : Int) < (es.length : Int) by omega)]
   rfl
  ·show (nx70_7_2 q (k : Int) (i : Int) l es 0 0 0 0 0 (ag es i), nx70_7_10 q (k : Int) (i : Int) l es 0 0 0 0 0 (ag es i)) = _
   unfold nx70_7_2 nx70_7_10 rn70_7_0
   rw [nxt i k hi (by omega), Int.toNat_natCast, mn_b]
   rfl
 ·show go70_7 q (k : Int) (k : Int) l es 0 0 0 0 0 (ag es k) = false
  unfold go70_7
  rw [decide_eq_false (by omega)]
  rfl
end Go.Proofs.Gv
namespace Go.Proofs.Gv
open Go.Proofs
variable {tk tk2 : Tk} {es es2 : List (List AV)} {l l2 id rank cost q : Int}
theorem nx_pos (h : ¬ nx l es < 0) : ∃ k, k < es.length ∧ nx l es = (k : Int) := by
 unfold nx at h ⊢
 cases hc : (chk l es != 0) with
 | true => rw [hc] at h; exact absurd (show (-1 : Int) < 0 by omega) h
 | false =>
   rw [hc] at h
   cases h2 : decide (ff (fun i => decide (q3 es i ≥ l)) es.length < es.length) with
   | true => exact ⟨_, of_decide_eq_true h2, rfl⟩
   | false =>
     rw [h2] at h
     cases h3 : decide (0 < es.length) with
     | true =>
       have := of_decide_eq_true h3
       have ha := amN_le es (es.length - 1)
       exact ⟨amN es (es.length - 1), by omega, rfl⟩
     | false => rw [h3] at h; exact absurd (show (-1 : Int) < 0 by omega) h
theorem r33l {k : Nat} (hk : k < es.length) (hN : es.length ≤ 1000) : vev98l_0 l es (k : Int) = wo es k ∧ vev98l_1 l es (k : Int) = true := by
 have h := r33 (l := l) hk hN
 exact ⟨h.1, h.2⟩
theorem r14 (hN : es.length ≤ 1000) : (vev67_0 l es q = vev70_0 l es q ∧ vev67_1 l es q = vev70_1 l es q ∧ vev67_2 l es q = vev70_2 l es q ∧ vev67_3 l es q = vev70_3 l es q ∧ vev67_4 l es q = vev70_4 l es q ∧ vev67_5 l es q = vev70_5 l es q) ∧ vev67_6 l es q = true ∧ vev70_6 l es q = true := by
 have h20 := r20 (tk := .imm) (l := l) hN
 have h21 := r21 (tk := .imm) (l := l) hN
 by_cases hx : nx l es < 0
 ·unfold vev67_0 vev67_1 vev67_2 vev67_3 vev67_4 vev67_5 vev67_6 vev70_0 vev70_1 vev70_2 vev70_3 vev70_4 vev70_5 vev70_6
  rw [h20.1, h20.2, h21.1, h21.2, r27 hN, decide_eq_true hx]
  exact ⟨⟨rfl, rfl, rfl, rfl, rfl, rfl⟩, rfl, rfl⟩
 ·by_cases hq : q < 1
  ·unfold vev67_0 vev67_1 vev67_2 vev67_3 vev67_4 vev67_5 vev67_6 vev70_0 vev70_1 vev70_2 vev70_3 vev70_4 vev70_5 vev70_6
   rw [h20.1, h20.2, h21.1, h21.2, r27 hN, decide_eq_false hx, decide_eq_true hq]
   exact ⟨⟨rfl, rfl, rfl, rfl, rfl, rfl⟩, rfl, rfl⟩
  ·obtain ⟨k, hk, hn⟩ := nx_pos hx
   have h4 := (ends14 (q := q) (l := l) (Nat.le_of_lt hk) hN).fin
   have h5 := (ends15 (q := q) (l := l) (Nat.le_of_lt hk) hN).fin
   rw [hn] at h20 h21
   have a1 : rev67_1 l es q = ag es k := by unfold rev67_1 rev67_0; rw [h20.1, h4.2]
   have b1 : rev70_1 l es q = ag es k := by unfold rev70_1 rev70_0; rw [h21.1, h5.2]
   have a3 : rev67_3 l es q = rev70_3 l es q := by unfold rev67_3 rev70_3; rw [a1, b1, h20.1, h21.1]
   have a4 : rev67_4 l es q = rev70_4 l es q := by unfold rev67_4 rev70_4; rw [a3]; exact mq_a _ _
   have a5 : rev67_5 l es q = rev70_5 l es q := by unfold rev67_5 rev70_5; rw [a4, a3, a1, b1, h20.1, h21.1]
   have a7 : rev67_7 l es q = rev70_7 l es q := by unfold rev67_7 rev70_7; rw [a5, h20.1, h21.1]
   have a8 : rev67_8 l es q = ((k + 1 : Nat) : Int) := by unfold rev67_8; rw [h20.1]; exact nxt k _ hk hN
   have l5 : (rev70_5 l es q).length = es.length := by unfold rev70_5; rw [List.length_set, b1, ag_len]
   have a6 : rev67_6 l es q = (es.length : Int) := by unfold rev67_6; rw [a5, l5]
   have b6 : rev70_6 l es q = (es.length : Int) := by unfold rev70_6; rw [l5]
   have a2 : rev67_2 l es q = (es.length : Int) := by unfold rev67_2; rw [a1, ag_len]
   have b2 : rev70_2 l es q = (es.length : Int) := by unfold rev70_2; rw [b1, ag_len]
   have d5 := r33l (l := l) (es := rev70_5 l es q) (k := k) (by omega) (by omega)
   have de := del_eq (es := rev70_5 l es q) (k := k) (by omega) [AV.int IntKind.i64 0, AV.int IntKind.i64 0, AV.int IntKind.i64 0, AV.int IntKind.i64 0]
   unfold vev67_0 vev67_1 vev67_2 vev67_3 vev67_4 vev67_5 vev67_6 vev70_0 vev70_1 vev70_2 vev70_3 vev70_4 vev70_5 vev70_6
   simp only [spI]
   rw [h20.1, h20.2, h21.1, h21.2, h4.1, h4.2, h5.1, h5.2, r27 hN, a2, b2, a4, a5, a6, b6, a7, a8, Int.toNat_natCast, Int.toNat_natCast, de, d5.1, d5.2, l5]
   rw [decide_eq_false (show ¬ (k : Int) < 0 by omega), decide_eq_false hq, decide_eq_true (show (0 : Int) ≤ (k : Int) by omega), decide_eq_true (show (k : Int) < (es.length : Int) by omega), decide_eq_true (show (k : Int) < ((k + 1 : Nat) : Int) by omega), decide_eq_true (show ((k + 1 : Nat) : Int) ≤ (es.length : Int) by omega), decide_eq_true (show es.length * 32 ≤ 140737488355328 by omega), decide_eq_true (show es.length ≤ 9223372036854775807 by omega)]
   unfold z67_5 z70_7 xc67_5_0 xc70_7_0 y67_5 y70_7
   dsimp only
   rw [decide_eq_false (show ¬ (k : Int) < (k : Int) by omega)]
   cases decide (rev70_7 l es q = 0) <;> exact ⟨⟨rfl, rfl, rfl, rfl, rfl, rfl⟩, rfl, rfl⟩
end Go.Proofs.Gv
namespace Go.Proofs.Gv
open Go.Proofs
variable {es es2 : List (List AV)} {l id rank cost q : Int}
theorem gD_set {i j : Nat} {r : List AV} : (es.set i r).getD j [] = if j = i ∧ i < es.length then r else es.getD j [] := by
 simp only [List.getD_eq_getElem?_getD, List.getElem?_set]
 by_cases h : i = j
 ·subst h
  by_cases h2 : i < es.length
  ·simp [h2]
  ·simp [h2]
 ·simp [h, Ne.symm h, show ¬ j = i from fun e => h e.symm]
theorem q_set {i j : Nat} {a b c d : Int} : q0 (es.set i [.int .i64 a, .int .i64 b, .int .i64 c, .int .i64 d]) j = (if j = i ∧ i < es.length then a else q0 es j) ∧ q1 (es.set i [.int .i64 a, .int .i64 b, .int .i64 c, .int .i64 d]) j = (if j = i ∧ i < es.length then b else q1 es j) ∧ q2 (es.set i [.int .i64 a, .int .i64 b, .int .i64 c, .int .i64 d]) j = (if j = i ∧ i < es.length then c else q2 es j) ∧ q3 (es.set i [.int .i64 a, .int .i64 b, .int .i64 c, .int .i64 d]) j = (if j = i ∧ i < es.length then d else q3 es j) := by
 unfold q0 q1 q2 q3
 rw [gD_set]
 by_cases h : j = i ∧ i < es.length
 ·refine ⟨?_, ?_, ?_, ?_⟩ <;> rw [if_pos h, if_pos h] <;> rfl
 ·refine ⟨?_, ?_, ?_, ?_⟩ <;> rw [if_neg h, if_neg h]
theorem q_ag : ∀ (k : Nat) (_ : k ≤ es.length) (j : Nat), q0 (ag es k) j = q0 es j ∧ q1 (ag es k) j = q1 es j ∧ q2 (ag es k) j = q2 es j ∧ q3 (ag es k) j = (if j < k then mn (IntKind.i64.wrap (q3 es j + 1)) else q3 es j)
 | 0, _, j => ⟨rfl, rfl, rfl, by rw [if_neg (Nat.not_lt_zero j)]; rfl⟩
 | k + 1, hk, j => by
   have ih := q_ag k (by omega)
   have hl := ag_len es k
   have hs := q_set (es := ag es k) (i := k) (j := j) (a := q0 (ag es k) k) (b := q1 (ag es k) k) (c := q2 (ag es k) k) (d := mn (IntKind.i64.wrap (q3 (ag es k) k + 1)))
   obtain ⟨s0, s1, s2, s3⟩ := hs
   show q0 (st3 (ag es k) k) j = _ ∧ q1 (st3 (ag es k) k) j = _ ∧ q2 (st3 (ag es k) k) j = _ ∧ q3 (st3 (ag es k) k) j = _
   unfold st3
   rw [s0, s1, s2, s3, hl]
   by_cases h : j = k
   ·subst h
    rw [if_pos ⟨rfl, by omega⟩, if_pos ⟨rfl, by omega⟩, if_pos ⟨rfl, by omega⟩, if_pos ⟨rfl, by omega⟩, if_pos (by omega), (ih j).1, (ih j).2.1, (ih j).2.2.1, (ih j).2.2.2, if_neg (by omega)]
    exact ⟨rfl, rfl, rfl, rfl⟩
   ·rw [if_neg (fun e => h e.1), if_neg (fun e => h e.1), if_neg (fun e => h e.1), if_neg (fun e => h e.1), (ih j).1, (ih j).2.1, (ih j).2.2.1, (ih j).2.2.2]
    refine ⟨rfl, rfl, rfl, ?_⟩
    by_cases h2 : j < k
    ·rw [if_pos h2, if_pos (by omega)]
    ·rw [if_neg h2, if_neg (by omega)]
theorem gD_wo {k j : Nat} (hk : k < es.length) : (wo es k).getD j [] = es.getD (if j < k then j else j + 1) [] := by
 unfold wo
 simp only [List.getD_eq_getElem?_getD]
 have l1 : (es.take k).length = k := by rw [List.length_take]; omega
 by_cases h : j < k
 ·rw [if_pos h, List.getElem?_append_left (by omega), List.getElem?_take_of_lt h]
 ·rw [if_neg h, List.getElem?_append_right (by omega), l1, List.getElem?_drop, show k + 1 + (j - k) = j + 1 by omega]
theorem q_wo {k j : Nat} (hk : k < es.length) : q0 (wo es k) j = q0 es (if j < k then j else j + 1) ∧ q1 (wo es k) j = q1 es (if j < k then j else j + 1) ∧ q2 (wo es k) j = q2 es (if j < k then j else j + 1) ∧ q3 (wo es k) j = q3 es (if j < k then j else j + 1) := by
 unfold q0 q1 q2 q3
 rw [gD_wo hk]
 exact ⟨rfl, rfl, rfl, rfl⟩
theorem len_wo {k : Nat} (hk : k < es.length) : (wo es k).length = es.length - 1 := by
 unfold wo
 rw [List.length_append, List.length_take, List.length_drop]
 omega
theorem good_wo {k : Nat} (hk : k < es.length) (lim : 1 ≤ l ∧ l ≤ 1000) (len : es.length ≤ 16) (fit : ∀ i, i < es.length → i ≠ k → vev84_0 (q0 es i) (q1 es i) (q2 es i) (q3 es i) = true) (one : ∀ i j, i < es.length → j < es.length → q0 es j = q0 es i → j = i) : Good l (wo es k) := by
 have hl := len_wo hk
 refine ⟨lim, by omega, fun i hi => ?_, fun i j hi hj he => ?_⟩
 ·obtain ⟨h0, h1, h2, h3⟩ := q_wo (j := i) hk
  rw [h0, h1, h2, h3]
  by_cases h : i < k
  ·rw [if_pos h]; exact fit _ (by omega) (by omega)
  ·rw [if_neg h]; exact fit _ (by omega) (by omega)
 ·rw [(q_wo (j := i) hk).1, (q_wo (j := j) hk).1] at he
  have h := one _ _ (by split <;> omega) (by split <;> omega) he
  split at h <;> split at h <;> omega
theorem good_chk (g : Good l es) : chk l es = 0 := by
 unfold chk
 have h3 : bad es = false := by
  unfold bad
  rw [ff_of (k := es.length) (Nat.le_refl _) (fun h => absurd h (Nat.lt_irrefl _)) (fun j hj => by rw [g.fit j hj]; rfl)]
  exact decide_eq_false (Nat.lt_irrefl _)
 have h4 : ff (dup es) es.length = es.length := ff_of (Nat.le_refl _) (fun h => absurd h (Nat.lt_irrefl _)) (fun j hj => by
  unfold dup
  rw [g.place hj]
  exact decide_eq_false (by omega))
 rw [(in80 l 1 1000).2 g.lim, decide_eq_false (show ¬ 16 < es.length by have := g.len; omega), h3, h4, decide_eq_false (Nat.lt_irrefl _)]
 rfl
def un (es : List (List AV)) (k : Nat) (q : Int) : Int := if q2 es k < q then q2 es k else q
def sq (es : List (List AV)) (k : Nat) (q : Int) : List (List AV) := (ag es k).set k [.int .i64 (q0 es k), .int .i64 (q1 es k), .int .i64 (q2 es k - un es k q), .int .i64 (q3 es k)]
theorem sq_len (k : Nat) : (sq es k q).length = es.length := by unfold sq; rw [List.length_set, ag_len]
theorem q_sq {k : Nat} (hk : k < es.length) (j : Nat) : q0 (sq es k q) j = q0 es j ∧ q1 (sq es k q) j = q1 es j ∧ q2 (sq es k q) j = (if j = k then q2 es k - un es k q else q2 es j) ∧ q3 (sq es k q) j = (if j < k then mn (IntKind.i64.wrap (q3 es j + 1)) else q3 es j) := by
 have ha := q_ag k (by omega : k ≤ es.length) j
 have hl := ag_len es k
 obtain ⟨s0, s1, s2, s3⟩ := q_set (es := ag es k) (i := k) (j := j) (a := q0 es k) (b := q1 es k) (c := q2 es k - un es k q) (d := q3 es k)
 unfold sq
 rw [s0, s1, s2, s3, hl, ha.1, ha.2.1, ha.2.2.1, ha.2.2.2]
 by_cases h : j = k
 ·subst h
  refine ⟨by rw [if_pos ⟨rfl, hk⟩], by rw [if_pos ⟨rfl, hk⟩], by rw [if_pos ⟨rfl, hk⟩, if_pos rfl], by rw [if_pos ⟨rfl, hk⟩, if_neg (Nat.lt_irrefl _)]⟩
 ·exact ⟨by rw [if_neg (fun e => h e.1)], by rw [if_neg (fun e => h e.1)], by rw [if_neg (fun e => h e.1), if_neg h], by rw [if_neg (fun e => h e.1)]⟩
def sv (es : List (List AV)) (k : Nat) (q : Int) : List (List AV) := bif decide (q2 es k - un es k q = 0) then wo (sq es k q) k else sq es k q
theorem s70 {k : Nat} (g : Good l es) (hk : k < es.length) (hn : nx l es = (k : Int)) (hq : 1 ≤ q) : vev67_0 l es q = sv es k q ∧ vev67_1 l es q = q0 es k ∧ vev67_3 l es q = q2 es k - un es k q ∧ vev67_5 l es q = un es k q := by
 have hN : es.length ≤ 1000 := by have := g.len; omega
 have h14 := r14 (l := l) (q := q) hN
 obtain ⟨⟨e0, e1, e2, e3, e4, e5⟩, _⟩ := h14
 rw [e0, e1, e3, e5]
 have h21 := r21 (tk := .imm) (l := l) (es := es) hN
 rw [hn] at h21
 have h5 := (ends15 (q := q) (l := l) (Nat.le_of_lt hk) hN).fin
 have b1 : rev70_1 l es q = ag es k := by unfold rev70_1 rev70_0; rw [h21.1, h5.2]
 have f := fits.1 (g.fit k hk)
 have ha := q_ag k (by omega : k ≤ es.length) k
 have b3 : rev70_3 l es q = q2 es k := by
  unfold rev70_3
  rw [b1, h21.1, Int.toNat_natCast]
  exact ha.2.2.1
 have b4 : rev70_4 l es q = un es k q := by
  unfold rev70_4 un
  rw [b3]
  simp only [Bool.false_eq_true, if_false]
 have hu : 0 ≤ un es k q ∧ un es k q ≤ q2 es k := by unfold un; split <;> omega
 have b5 : rev70_5 l es q = sq es k q := by
  unfold rev70_5
  rw [b4, b3, b1, h21.1, Int.toNat_natCast, wrapOf _ (by omega) (by omega)]
  have i0 : intOf (((ag es k).getD k []).getD (0 : Nat) AV.junk) = q0 es k := ha.1
  have i1 : intOf (((ag es k).getD k []).getD ((0 : Nat) + (1 : Nat)) AV.junk) = q1 es k := ha.2.1
  have i3 : intOf (((ag es k).getD k []).getD ((0 : Nat) + (1 : Nat) + (1 : Nat) + (1 : Nat)) AV.junk) = q3 es k := by
   have h := ha.2.2.2
   rw [if_neg (Nat.lt_irrefl _)] at h
   exact h
  rw [i0, i1, i3]
  rfl
 have b7 : rev70_7 l es q = q2 es k - un es k q := by
  unfold rev70_7
  rw [b5, h21.1, Int.toNat_natCast]
  have h := (q_sq (q := q) hk k).2.2.1
  rw [if_pos rfl] at h
  exact h
 have c0 : intOf (((sq es k q).getD k []).getD (0 : Nat) AV.junk) = q0 es k := (q_sq (q := q) hk k).1
 have d5 := (r33l (l := l) (es := sq es k q) (k := k) (by rw [sq_len]; exact hk) (by rw [sq_len]; exact hN)).1
 unfold vev70_0 vev70_1 vev70_3 vev70_5
 rw [b4, b7, b5, h21.1, d5, Int.toNat_natCast, c0, decide_eq_false (show ¬ (k : Int) < 0 by omega), decide_eq_false (show ¬ q < 1 by omega)]
 exact ⟨rfl, rfl, rfl, rfl⟩
theorem mn_w {x : Int} (h0 : 0 ≤ x) (h1 : x ≤ 2000) : 0 ≤ mn (IntKind.i64.wrap (x + 1)) ∧ mn (IntKind.i64.wrap (x + 1)) ≤ 2000 ∧ mn (IntKind.i64.wrap (x + 1)) ≤ x + 1 ∧ (x < 2000 → mn (IntKind.i64.wrap (x + 1)) = x + 1) := by
 rw [wrapOf _ (by omega) (by omega)]
 unfold mn
 split <;> refine ⟨?_, ?_, ?_, fun _ => ?_⟩ <;> omega
theorem un_le {k : Nat} (g : Good l es) (hk : k < es.length) (hq : 1 ≤ q) : 1 ≤ un es k q ∧ un es k q ≤ q2 es k ∧ un es k q ≤ q := by
 have f := fits.1 (g.fit k hk)
 unfold un
 split <;> omega
theorem sv_good {k : Nat} (g : Good l es) (hk : k < es.length) (hq : 1 ≤ q) : Good l (sv es k q) := by
 have hu := un_le g hk hq
 have hl := sq_len (es := es) (q := q) k
 have fit : ∀ i, i < es.length → (i ≠ k ∨ q2 es k - un es k q ≠ 0) → vev84_0 (q0 (sq es k q) i) (q1 (sq es k q) i) (q2 (sq es k q) i) (q3 (sq es k q) i) = true := fun i hi ho => by
  obtain ⟨s0, s1, s2, s3⟩ := q_sq (q := q) hk i
  have f := fits.1 (g.fit i hi)
  have fk := fits.1 (g.fit k hk)
  have hm := mn_w (x := q3 es i) (by omega) (by omega)
  rw [s0, s1, s2, s3]
  refine fits.2 ⟨f.1, f.2.1, ?_, ?_⟩
  ·split <;> omega
  ·split <;> omega
 have one : ∀ i j, i < es.length → j < es.length → q0 (sq es k q) j = q0 (sq es k q) i → j = i := fun i j hi hj he => by
  rw [(q_sq (q := q) hk i).1, (q_sq (q := q) hk j).1] at he
  exact g.one i j hi hj he
 unfold sv
 by_cases h : q2 es k - un es k q = 0
 ·rw [decide_eq_true h]
  exact good_wo (by omega) g.lim (by rw [hl]; exact g.len) (fun i hi hik => fit i (by omega) (Or.inl hik)) (fun i j hi hj => one i j (by omega) (by omega))
 ·rw [decide_eq_false h]
  exact ⟨g.lim, by rw [cond_false, hl]; exact g.len, fun i hi => fit i (by rw [cond_false] at hi; omega) (Or.inr h), fun i j hi hj => one i j (by rw [cond_false] at hi; omega) (by rw [cond_false] at hj; omega)⟩
theorem nx_some (g : Good l es) (h0 : 0 < es.length) : ∃ k, k < es.length ∧ nx l es = (k : Int) ∧ ∀ j, j < k → q3 es j < l := by
 have hc := good_chk g
 have e : nx l es = bif decide (ff (fun i => decide (q3 es i ≥ l)) es.length < es.length) then ((ff (fun i => decide (q3 es i ≥ l)) es.length : Nat) : Int) else ((amN es (es.length - 1) : Nat) : Int) := by
  unfold nx
  rw [hc, decide_eq_true h0]
  rfl
 rw [e]
 have hm : ∀ j, j < ff (fun i => decide (q3 es i ≥ l)) es.length → q3 es j < l := fun j hj => by
  have := ff_miss hj
  have := of_decide_eq_false this
  omega
 by_cases h2 : ff (fun i => decide (q3 es i ≥ l)) es.length < es.length
 ·rw [decide_eq_true h2]
  exact ⟨_, h2, rfl, hm⟩
 ·rw [decide_eq_false h2]
  have ha := amN_le es (es.length - 1)
  exact ⟨amN es (es.length - 1), by omega, rfl, fun j hj => hm j (by omega)⟩
def pu (es : List (List AV)) (id rank cost : Int) : List (List AV) := es ++ [[.int .i64 id, .int .i64 rank, .int .i64 cost, .int .i64 0]]
theorem q_pu (j : Nat) : q0 (pu es id rank cost) j = (if j = es.length then id else q0 es j) ∧ q1 (pu es id rank cost) j = (if j = es.length then rank else q1 es j) ∧ q2 (pu es id rank cost) j = (if j = es.length then cost else q2 es j) ∧ q3 (pu es id rank cost) j = (if j = es.length then 0 else q3 es j) := by
 have e : (pu es id rank cost).getD j [] = if j = es.length then [.int .i64 id, .int .i64 rank, .int .i64 cost, .int .i64 0] else es.getD j [] := by
  unfold pu
  simp only [List.getD_eq_getElem?_getD]
  rcases Nat.lt_trichotomy j es.length with h | h | h
  ·rw [List.getElem?_append_left h, if_neg (by omega)]
  ·rw [List.getElem?_append_right (by omega), h, Nat.sub_self, if_pos rfl]
   rfl
  ·rw [List.getElem?_append_right (by omega), if_neg (by omega), List.getElem?_eq_none (by simp; omega), List.getElem?_eq_none (by omega)]
 unfold q0 q1 q2 q3
 rw [e]
 by_cases h : j = es.length
 ·refine ⟨?_, ?_, ?_, ?_⟩ <;> rw [if_pos h, if_pos h] <;> rfl
 ·refine ⟨?_, ?_, ?_, ?_⟩ <;> rw [if_neg h, if_neg h]
theorem pu_len : (pu es id rank cost).length = es.length + 1 := by unfold pu; rw [List.length_append]; rfl
theorem pu_good (g : Good l es) (hl : es.length < 16) (hf : vev84_0 id rank cost 0 = true) (hn : ∀ j, j < es.length → q0 es j ≠ id) : Good l (pu es id rank cost) := by
 refine ⟨g.lim, by rw [pu_len]; omega, fun i hi => ?_, fun i j hi hj he => ?_⟩
 ·rw [pu_len] at hi
  obtain ⟨p0, p1, p2, p3⟩ := q_pu (es := es) (id := id) (rank := rank) (cost := cost) i
  rw [p0, p1, p2, p3]
  by_cases h : i = es.length
  ·simp only [if_pos h]; exact hf
  ·simp only [if_neg h]; exact g.fit i (by omega)
 ·rw [pu_len] at hi hj
  rw [(q_pu (es := es) (id := id) (rank := rank) (cost := cost) i).1, (q_pu (es := es) (id := id) (rank := rank) (cost := cost) j).1] at he
  by_cases h : i = es.length
  ·by_cases h2 : j = es.length
   ·omega
   ·rw [if_pos h, if_neg h2] at he
    exact absurd he (hn j (by omega))
  ·by_cases h2 : j = es.length
   ·rw [if_neg h, if_pos h2] at he
    exact absurd he.symm (hn i (by omega))
   ·rw [if_neg h, if_neg h2] at he
    exact g.one i j (by omega) (by omega) he
end Go.Proofs.Gv
namespace Go.Proofs.Gv
open List (Perm)
abbrev It := Int × Int
def ltI (a b : It) : Bool := decide (a.1 < b.1) || (a.1 == b.1 && decide (a.2 < b.2))
theorem ltI_iff {a b : It} : ltI a b = true ↔ a.1 < b.1 ∨ (a.1 = b.1 ∧ a.2 < b.2) := by simp [ltI]
theorem ltI_not {a b : It} : ltI a b = false ↔ ¬ (a.1 < b.1 ∨ (a.1 = b.1 ∧ a.2 < b.2)) := by rw [← ltI_iff]; simp
theorem ltI_irr (a : It) : ltI a a = false := by rw [ltI_not]; omega
theorem ltI_asym {a b : It} (h : ltI a b = true) : ltI b a = false := by rw [ltI_iff] at h; rw [ltI_not]; omega
theorem leI_trans {a b c : It} (h : ltI b a = false) (k : ltI c b = false) : ltI c a = false := by rw [ltI_not] at *; omega
theorem lt_leI_trans {a b c : It} (h : ltI a b = true) (k : ltI c b = false) : ltI a c = true := by rw [ltI_iff] at *; rw [ltI_not] at k; omega
theorem leI_antisymm {a b : It} (h : ltI b a = false) (k : ltI a b = false) : a = b := by
 rw [ltI_not] at *
 obtain ⟨a1, a2⟩ := a
 obtain ⟨b1, b2⟩ := b
 simp only at h k
 have : a1 = b1 := by omega
 have : a2 = b2 := by omega
 simp [*]
def at' (l : List It) (k : Nat) : It := l.getD k (0, 0)
theorem at_lt {l : List It} {k : Nat} (h : k < l.length) : at' l k = l[k] := by simp [at', List.getD, h]
theorem at_mem {l : List It} {k : Nat} (h : k < l.length) : at' l k ∈ l := by rw [at_lt h]; exact List.getElem_mem h
theorem at_set {l : List It} {i k : Nat} {x : It} (h : i < l.length) : at' (l.set i x) k = if k = i then x else at' l k := by
 unfold at' List.getD
 rw [List.getElem?_set]
 by_cases e : i = k
 ·subst e; simp [h]
 ·rw [if_neg e, if_neg (Ne.symm e)]
def swapL (l : List It) (i j : Nat) : List It := (l.set i (at' l j)).set j (at' l i)
theorem swapL_len (l : List It) (i j : Nat) : (swapL l i j).length = l.length := by simp [swapL]
theorem at_swap {l : List It} {i j k : Nat} (hi : i < l.length) (hj : j < l.length) : at' (swapL l i j) k = if k = j then at' l i else if k = i then at' l j else at' l k := by
 unfold swapL
 rw [at_set (by simpa using hj), at_set hi]
theorem swap_perm {l : List It} {i j : Nat} (hi : i < l.length) (hj : j < l.length) : Perm (swapL l i j) l := by
 unfold swapL
 rw [at_lt hi, at_lt hj]
 exact List.set_set_perm hi hj
def okAt (l : List It) (k : Nat) : Prop := ltI (at' l k) (at' l ((k - 1) / 2)) = false
def HeapL (l : List It) : Prop := ∀ k, 0 < k → k < l.length → okAt l k
def goU (s : List It × Nat) : Bool := decide (0 < s.2) && ltI (at' s.1 s.2) (at' s.1 ((s.2 - 1) / 2))
def nxU (s : List It × Nat) : List It × Nat := (swapL s.1 s.2 ((s.2 - 1) / 2), (s.2 - 1) / 2)
def UpInv (l : List It) (i : Nat) : Prop := (∀ k, 0 < k → k < l.length → k ≠ i → okAt l k) ∧ (∀ c, 0 < c → c < l.length → (c - 1) / 2 = i → 0 < i → ltI (at' l c) (at' l ((i - 1) / 2)) = false)
theorem up_ends : ∀ (i : Nat) (l : List It), i < l.length → UpInv l i → ∃ r j, Ends goU nxU (l, i) (r, j) ∧ Perm r l ∧ HeapL r := by
 intro i
 induction i using Nat.strongRecOn with
 | _ i ih =>
   intro l hi h
   obtain ⟨h1, h2⟩ := h
   cases hg : goU (l, i) with
   | false =>
     refine ⟨l, i, Ends.stop hg, Perm.refl _, fun k hk hkl => ?_⟩
     by_cases e : k = i
     ·subst e
      unfold goU at hg
      simp only [hk, decide_true, Bool.true_and] at hg
      exact hg
     ·exact h1 k hk hkl e
   | true =>
     have hg' := hg
     unfold goU at hg'
     simp only [Bool.and_eq_true, decide_eq_true_eq] at hg'
     obtain ⟨hp, hlt⟩ := hg'
     have hpl : (i - 1) / 2 < l.length := by omega
     have hle := ltI_asym hlt
     obtain ⟨r, j, he, hpm, hh⟩ := ih ((i - 1) / 2) (by omega) (swapL l i ((i - 1) / 2)) (by rw [swapL_len]; exact hpl) (by
      refine ⟨fun k hk hkl hkn => ?_, fun c hc hcl hcp hpp => ?_⟩
      ·rw [swapL_len] at hkl
       unfold okAt
       rw [at_swap hi hpl, at_swap hi hpl, if_neg hkn]
       by_cases e : k = i
       ·subst e
        rw [if_pos rfl, if_pos rfl]
        exact hle
       ·rw [if_neg e]
        by_cases e2 : (k - 1) / 2 = (i - 1) / 2
        ·rw [if_pos e2]
         have := h1 k hk hkl e
         unfold okAt at this
         rw [e2] at this
         exact leI_trans (leI_trans (ltI_irr _) hle) this
        ·rw [if_neg e2]
         by_cases e3 : (k - 1) / 2 = i
         ·rw [if_pos e3]
          exact h2 k hk hkl e3 hp
         ·rw [if_neg e3]
          exact h1 k hk hkl e
      ·rw [swapL_len] at hcl
       have hq : (((i - 1) / 2 - 1) / 2) ≠ (i - 1) / 2 := by omega
       have hq2 : (((i - 1) / 2 - 1) / 2) ≠ i := by omega
       rw [at_swap hi hpl, at_swap hi hpl, if_neg hq, if_neg hq2]
       have hpo := h1 ((i - 1) / 2) hpp hpl (by omega)
       by_cases e : c = (i - 1) / 2
       ·exfalso; omega
       ·rw [if_neg e]
        by_cases e2 : c = i
        ·rw [if_pos e2]
         exact hpo
        ·rw [if_neg e2]
         have := h1 c hc hcl e2
         unfold okAt at this hpo
         rw [hcp] at this
         exact leI_trans hpo this)
     exact ⟨r, j, Ends.step hg he, hpm.trans (swap_perm hi hpl), hh⟩
def leastD (l : List It) (i : Nat) : Nat :=
 let m := if 2 * i + 1 < l.length ∧ ltI (at' l (2 * i + 1)) (at' l i) = true then 2 * i + 1 else i
 if 2 * i + 2 < l.length ∧ ltI (at' l (2 * i + 2)) (at' l m) = true then 2 * i + 2 else m
def goD (s : List It × Nat) : Bool := !(leastD s.1 s.2 == s.2)
def nxD (s : List It × Nat) : List It × Nat := (swapL s.1 s.2 (leastD s.1 s.2), leastD s.1 s.2)
theorem leastD_cases (l : List It) (i : Nat) : (leastD l i = i ∧ (∀ c, 0 < c → c < l.length → (c - 1) / 2 = i → ltI (at' l c) (at' l i) = false)) ∨
  (i < leastD l i ∧ leastD l i < l.length ∧ (leastD l i - 1) / 2 = i ∧ ltI (at' l (leastD l i)) (at' l i) = true ∧ (∀ c, 0 < c → c < l.length → (c - 1) / 2 = i → ltI (at' l c) (at' l (leastD l i)) = false)) := by
 have hc : ∀ c, 0 < c → (c - 1) / 2 = i → c = 2 * i + 1 ∨ c = 2 * i + 2 := fun c h1 h2 => by omega
 unfold leastD
 by_cases h1 : 2 * i + 1 < l.length ∧ ltI (at' l (2 * i + 1)) (at' l i) = true
 ·simp only [if_pos h1]
  by_cases h2 : 2 * i + 2 < l.length ∧ ltI (at' l (2 * i + 2)) (at' l (2 * i + 1)) = true
  ·simp only [if_pos h2]
   right
   refine ⟨by omega, h2.1, by omega, ?_, fun c hp hl hcp => ?_⟩
   ·exact lt_leI_trans h2.2 (ltI_asym h1.2)
   ·rcases hc c hp hcp with e | e <;> subst e
    ·exact ltI_asym h2.2
    ·exact ltI_irr _
  ·simp only [if_neg h2]
   right
   refine ⟨by omega, h1.1, by omega, h1.2, fun c hp hl hcp => ?_⟩
   rcases hc c hp hcp with e | e <;> subst e
   ·exact ltI_irr _
   ·cases hb : ltI (at' l (2 * i + 2)) (at' l (2 * i + 1)) with
    | false => rfl
    | true => exact absurd ⟨hl, hb⟩ h2
 ·simp only [if_neg h1]
  by_cases h2 : 2 * i + 2 < l.length ∧ ltI (at' l (2 * i + 2)) (at' l i) = true
  ·simp only [if_pos h2]
   right
   refine ⟨by omega, h2.1, by omega, h2.2, fun c hp hl hcp => ?_⟩
   rcases hc c hp hcp with e | e <;> subst e
   ·cases hb : ltI (at' l (2 * i + 1)) (at' l i) with
    | true => exact absurd ⟨hl, hb⟩ h1
    | false => exact leI_trans (ltI_asym h2.2) hb
   ·exact ltI_irr _
  ·simp only [if_neg h2]
   left
   refine ⟨trivial, fun c hp hl hcp => ?_⟩
   rcases hc c hp hcp with e | e <;> subst e
   ·cases hb : ltI (at' l (2 * i + 1)) (at' l i) with
    | true => exact absurd ⟨hl, hb⟩ h1
    | false => rfl
   ·cases hb : ltI (at' l (2 * i + 2)) (at' l i) with
    | true => exact absurd ⟨hl, hb⟩ h2
    | false => rfl
def DownInv (lo : Nat) (l : List It) (i : Nat) : Prop := (∀ k, 0 < k → k < l.length → lo ≤ (k - 1) / 2 → (k - 1) / 2 ≠ i → k ≠ i → okAt l k) ∧ (∀ c, 0 < c → c < l.length → (c - 1) / 2 = i → 0 < i → lo ≤ (i - 1) / 2 → ltI (at' l c) (at' l ((i - 1) / 2)) = false)
theorem down_ends (lo : Nat) : ∀ (n : Nat) (l : List It) (i : Nat), l.length - i = n → i < l.length → lo ≤ i → DownInv lo l i → (0 < i → lo ≤ (i - 1) / 2 → okAt l i) →
  ∃ r j, Ends goD nxD (l, i) (r, j) ∧ Perm r l ∧ ∀ k, 0 < k → k < r.length → lo ≤ (k - 1) / 2 → okAt r k := by
 intro n
 induction n using Nat.strongRecOn with
 | _ n ih =>
   intro l i hn hi hlo h hok
   obtain ⟨h1, h2⟩ := h
   rcases leastD_cases l i with ⟨he, hc⟩ | ⟨hm1, hm2, hm3, hm4, hm5⟩
   ·refine ⟨l, i, Ends.stop (by simp [goD, he]), Perm.refl _, fun k hk hkl hkp => ?_⟩
    by_cases e : (k - 1) / 2 = i
    ·unfold okAt; rw [e]; exact hc k hk hkl e
    ·by_cases e2 : k = i
     ·subst e2; exact hok hk hkp
     ·exact h1 k hk hkl hkp e e2
   ·generalize hm : leastD l i = m at *
    have hgo : goD (l, i) = true := by
     unfold goD
     simp only [hm]
     simp
     omega
    have hnx : nxD (l, i) = (swapL l i m, m) := by unfold nxD; simp only [hm]
    obtain ⟨r, j, he, hp, hh⟩ := ih (l.length - m) (by omega) (swapL l i m) m (by rw [swapL_len]) (by rw [swapL_len]; exact hm2) (by omega) (by
     refine ⟨fun k hk hkl hkp hkm hkm' => ?_, fun c hc hcl hcm hm0 hlp => ?_⟩
     ·rw [swapL_len] at hkl
      unfold okAt
      rw [at_swap hi hm2, at_swap hi hm2]
      rw [if_neg hkm]
      by_cases e : (k - 1) / 2 = i
      ·rw [if_pos e]
       by_cases e2 : k = m
       ·rw [if_pos e2]
        exact ltI_asym hm4
       ·rw [if_neg e2, if_neg (by omega)]
        exact hm5 k hk hkl e
      ·rw [if_neg e]
       have hkm2 : k ≠ m := fun h => e (by rw [h]; exact hm3)
       rw [if_neg hkm2]
       by_cases e3 : k = i
       ·rw [if_pos e3]
        subst e3
        exact h2 m (by omega) hm2 hm3 hk hkp
       ·rw [if_neg e3]
        exact h1 k hk hkl hkp e e3
     ·rw [swapL_len] at hcl
      rw [at_swap hi hm2, at_swap hi hm2, hm3, if_neg (show ¬ c = m by omega), if_neg (show ¬ c = i by omega), if_neg (show ¬ i = m by omega), if_pos rfl]
      have := h1 c hc hcl (by omega) (by omega) (by omega)
      unfold okAt at this
      rw [hcm] at this
      exact this) (fun hm0 hlp => by
       unfold okAt
       rw [at_swap hi hm2, at_swap hi hm2, if_pos rfl, hm3, if_neg (by omega), if_pos rfl]
       exact ltI_asym hm4)
    exact ⟨r, j, Ends.step hgo (by rw [hnx]; exact he), hp.trans (swap_perm hi hm2), hh⟩
theorem down_up (l : List It) (i : Nat) (hi : i < l.length) (h : DownInv 0 l i) : ∃ r j, Ends goD nxD (l, i) (r, j) ∧ Perm r l ∧ UpInv r i := by
 obtain ⟨h1, h2⟩ := h
 rcases leastD_cases l i with ⟨he, hc⟩ | ⟨hm1, hm2, hm3, hm4, hm5⟩
 ·refine ⟨l, i, Ends.stop (by simp [goD, he]), Perm.refl _, fun k hk hkl hki => ?_, fun c hc1 hcl hcp hi0 => h2 c hc1 hcl hcp hi0 (Nat.zero_le _)⟩
  by_cases e : (k - 1) / 2 = i
  ·unfold okAt; rw [e]; exact hc k hk hkl e
  ·exact h1 k hk hkl (Nat.zero_le _) e hki
 ·generalize hm : leastD l i = m at *
  have hgo : goD (l, i) = true := by
   unfold goD
   simp only [hm]
   simp
   omega
  have hnx : nxD (l, i) = (swapL l i m, m) := by unfold nxD; simp only [hm]
  obtain ⟨r, j, he, hp, hh⟩ := down_ends 0 (l.length - m) (swapL l i m) m (by rw [swapL_len]) (by rw [swapL_len]; exact hm2) (Nat.zero_le _) (by
    refine ⟨fun k hk hkl hkp hkm hkm' => ?_, fun c hc hcl hcm hm0 hlp => ?_⟩
    ·rw [swapL_len] at hkl
     unfold okAt
     rw [at_swap hi hm2, at_swap hi hm2]
     rw [if_neg hkm]
     by_cases e : (k - 1) / 2 = i
     ·rw [if_pos e]
      by_cases e2 : k = m
      ·rw [if_pos e2]
       exact ltI_asym hm4
      ·rw [if_neg e2, if_neg (by omega)]
       exact hm5 k hk hkl e
     ·rw [if_neg e]
      have hkm2 : k ≠ m := fun h => e (by rw [h]; exact hm3)
      rw [if_neg hkm2]
      by_cases e3 : k = i
      ·rw [if_pos e3]
       subst e3
       exact h2 m (by omega) hm2 hm3 hk hkp
      ·rw [if_neg e3]
       exact h1 k hk hkl hkp e e3
    ·rw [swapL_len] at hcl
     rw [at_swap hi hm2, at_swap hi hm2, hm3, if_neg (show ¬ c = m by omega), if_neg (show ¬ c = i by omega), if_neg (show ¬ i = m by omega), if_pos rfl]
     have := h1 c hc hcl (by omega) (by omega) (by omega)
     unfold okAt at this
     rw [hcm] at this
     exact this) (fun hm0 hlp => by
      unfold okAt
      rw [at_swap hi hm2, at_swap hi hm2, if_pos rfl, hm3, if_neg (by omega), if_pos rfl]
      exact ltI_asym hm4)
  have hH : HeapL r := fun k hk hkl => hh k hk hkl (Nat.zero_le _)
  refine ⟨r, j, Ends.step hgo (by rw [hnx]; exact he), hp.trans (swap_perm hi hm2), fun k hk hkl _ => hH k hk hkl, fun c hc hcl hcp hi0 => ?_⟩
  have a1 := hH c hc hcl
  have a2 := hH i hi0 (by omega)
  unfold okAt at a1 a2
  rw [hcp] at a1
  exact leI_trans a2 a1
theorem heap_min {l : List It} (h : HeapL l) : ∀ k, k < l.length → ltI (at' l k) (at' l 0) = false := by
 intro k
 induction k using Nat.strongRecOn with
 | _ k ih =>
   intro hk
   by_cases e : k = 0
   ·subst e; exact ltI_irr _
   ·exact leI_trans (ih ((k - 1) / 2) (by omega) (by omega)) (h k (by omega) hk)
end Go.Proofs.Gv
namespace Go.Proofs.Gv
open List (Perm)
abbrev SortedI (l : List It) : Prop := l.Pairwise fun a b => ltI b a = false
def insK (x : It) (o : List It) : Nat → Nat
 | 0 => 0
 | k + 1 => bif ltI x (at' o k) then insK x o k else k + 1
def insL (x : It) (o : List It) : List It := o.take (insK x o o.length) ++ x :: o.drop (insK x o o.length)
def sortL (l : List It) : List It := l.foldl (fun o x => insL x o) []
noncomputable def downR (l : List It) (i : Nat) : List It := (finL goD nxD (l, i)).1
noncomputable def upR (l : List It) (i : Nat) : List It := (finL goU nxU (l, i)).1
theorem downR_of {l r : List It} {i j : Nat} (h : Ends goD nxD (l, i) (r, j)) : downR l i = r := by unfold downR; rw [h.fin.2]
theorem upR_of {l r : List It} {i j : Nat} (h : Ends goU nxU (l, i) (r, j)) : upR l i = r := by unfold upR; rw [h.fin.2]
noncomputable def heapify : Nat → List It → List It
 | 0, l => l
 | n + 1, l => heapify n (downR l n)
theorem heapify_spec : ∀ (n : Nat) (l : List It), n ≤ l.length / 2 → (∀ k, 0 < k → k < l.length → n ≤ (k - 1) / 2 → okAt l k) → Perm (heapify n l) l ∧ HeapL (heapify n l) := by
 intro n
 induction n with
 | zero => intro l _ h; exact ⟨Perm.refl _, fun k hk hkl => h k hk hkl (Nat.zero_le _)⟩
 | succ n ih =>
   intro l hn h
   obtain ⟨r, j, he, hp, hh⟩ := down_ends n (l.length - n) l n rfl (by omega) (Nat.le_refl _) ⟨fun k hk hkl h1 h2 _ => h k hk hkl (by omega), fun c _ _ _ h0 h1 => by omega⟩ (fun h0 h1 => by omega)
   simp only [heapify, downR_of he]
   obtain ⟨h1, h2⟩ := ih r (by rw [hp.length_eq]; omega) hh
   exact ⟨h1.trans hp, h2⟩
noncomputable def ofH (l : List It) : List It := heapify (l.length / 2) l
theorem ofH_spec (l : List It) : Perm (ofH l) l ∧ HeapL (ofH l) := heapify_spec _ l (Nat.le_refl _) fun k hk hkl h => by omega
noncomputable def isH (l : List It) : Bool := @decide (HeapL l) (Classical.propDecidable _)
theorem isH_iff {l : List It} : isH l = true ↔ HeapL l := by unfold isH; exact @decide_eq_true_iff _ (Classical.propDecidable _)
theorem isH_not {l : List It} : isH l = false ↔ ¬ HeapL l := by rw [← isH_iff]; simp
noncomputable def ownH (l : List It) : List It := bif isH l then l else ofH l
theorem ownH_spec (l : List It) : Perm (ownH l) l ∧ HeapL (ownH l) := by
 unfold ownH
 cases h : isH l with
 | true => exact ⟨Perm.refl _, isH_iff.1 h⟩
 | false => exact ofH_spec l
theorem push_up {l : List It} (x : It) (h : HeapL l) : UpInv (l ++ [x]) l.length := by
 have e1 : ∀ k, k < l.length → at' (l ++ [x]) k = at' l k := fun k hk => by simp [at', List.getD, List.getElem?_append_left hk]
 refine ⟨fun k hk hkl hkn => ?_, fun c hc hcl hcp h0 => ?_⟩
 ·rw [List.length_append, List.length_singleton] at hkl
  unfold okAt
  rw [e1 k (by omega), e1 _ (by omega)]
  exact h k hk (by omega)
 ·rw [List.length_append, List.length_singleton] at hcl
  omega
noncomputable def pushH (l : List It) (x : It) : List It := upR (ownH l ++ [x]) (ownH l).length
theorem pushH_ends (l : List It) (x : It) : ∃ r j, Ends goU nxU (ownH l ++ [x], (ownH l).length) (r, j) ∧ Perm r (l ++ [x]) ∧ HeapL r := by
 obtain ⟨h1, h2⟩ := ownH_spec l
 obtain ⟨r, j, he, hp, hh⟩ := up_ends (ownH l).length (ownH l ++ [x]) (by simp) (push_up x h2)
 exact ⟨r, j, he, hp.trans (h1.append_right _), hh⟩
theorem pushH_spec (l : List It) (x : It) : Perm (pushH l x) (l ++ [x]) ∧ HeapL (pushH l x) := by
 obtain ⟨r, j, he, hp, hh⟩ := pushH_ends l x
 unfold pushH
 rw [upR_of he]
 exact ⟨hp, hh⟩
theorem set_inv {l : List It} {i : Nat} (x : It) (h : HeapL l) (hi : i < l.length) : DownInv 0 (l.set i x) i := by
 refine ⟨fun k hk hkl _ hkp e => ?_, fun c hc hcl hcp h0 _ => ?_⟩
 ·rw [List.length_set] at hkl
  unfold okAt
  rw [at_set hi, at_set hi, if_neg e, if_neg hkp]
  exact h k hk hkl
 ·rw [List.length_set] at hcl
  rw [at_set hi, at_set hi, if_neg (by omega), if_neg (by omega)]
  have a1 := h c hc hcl
  have a2 := h i h0 hi
  unfold okAt at a1 a2
  rw [hcp] at a1
  exact leI_trans a2 a1
theorem fix_spec {l : List It} {i : Nat} (hi : i < l.length) (h : DownInv 0 l i) : ∃ r j, Ends goD nxD (l, i) (r, j) ∧ (∃ r' j', Ends goU nxU (r, i) (r', j') ∧ Perm r' l ∧ HeapL r') := by
 obtain ⟨r, j, he, hp, hu⟩ := down_up l i hi h
 obtain ⟨r', j', he', hp', hh⟩ := up_ends i r (by rw [hp.length_eq]; exact hi) hu
 exact ⟨r, j, he, r', j', he', hp'.trans hp, hh⟩
theorem cut_inv {l : List It} {i : Nat} (h : HeapL l) (hi : i + 1 < l.length) : DownInv 0 ((l.set i (at' l (l.length - 1))).take (l.length - 1)) i := by
 have hlen : ((l.set i (at' l (l.length - 1))).take (l.length - 1)).length = l.length - 1 := by simp
 have e1 : ∀ k, k < l.length - 1 → at' ((l.set i (at' l (l.length - 1))).take (l.length - 1)) k = at' (l.set i (at' l (l.length - 1))) k := fun k hk => by rw [at_lt (by rw [hlen]; exact hk), List.getElem_take]; exact (at_lt (by rw [List.length_set]; omega)).symm
 have hs := set_inv (at' l (l.length - 1)) h (show i < l.length by omega)
 obtain ⟨h1, h2⟩ := hs
 rw [List.length_set] at h1 h2
 refine ⟨fun k hk hkl h0 hkp hki => ?_, fun c hc hcl hcp h0 h3 => ?_⟩
 ·rw [hlen] at hkl
  unfold okAt
  rw [e1 k hkl, e1 _ (by omega)]
  exact h1 k hk (by omega) h0 hkp hki
 ·rw [hlen] at hcl
  rw [e1 c hcl, e1 _ (by omega)]
  exact h2 c hc (by omega) hcp h0 h3
theorem cut_perm {l : List It} {i : Nat} (hi : i < l.length) : Perm (at' l i :: (l.set i (at' l (l.length - 1))).take (l.length - 1)) l := by
 have hne : l ≠ [] := by intro h; subst h; simp at hi
 by_cases e : i = l.length - 1
 ·have e2 : (l.set i (at' l (l.length - 1))).take (l.length - 1) = l.take (l.length - 1) := by
   rw [← e, List.take_set]
   exact List.set_eq_of_length_le (by simp; omega)
  rw [e2]
  have e3 : l.take (l.length - 1) ++ [at' l i] = l := by
   rw [e, at_lt (by omega)]
   rw [← List.take_succ_eq_append_getElem (by omega)]
   rw [show l.length - 1 + 1 = l.length by omega, List.take_length]
  exact (List.perm_append_singleton (at' l i) (l.take (l.length - 1))).symm.trans (by rw [e3])
 ·have hs : swapL l i (l.length - 1) = (l.set i (at' l (l.length - 1))).take (l.length - 1) ++ [at' l i] := by
   refine List.ext_getElem (by rw [swapL_len]; simp; omega) fun k hk hk' => ?_
   rw [swapL_len] at hk
   rw [← at_lt (by rw [swapL_len]; exact hk), at_swap (by omega) (by omega)]
   by_cases e2 : k = l.length - 1
   ·rw [if_pos e2, List.getElem_append_right (by simp; omega)]
    simp
   ·rw [if_neg e2, List.getElem_append_left (by simp; omega), List.getElem_take, ← at_lt (by rw [List.length_set]; exact hk), at_set (by omega)]
  refine ((List.perm_append_singleton (at' l i) _).symm.trans ?_)
  rw [← hs]
  exact swap_perm hi (by omega)
end Go.Proofs.Gv
namespace Go.Proofs.Gv
open List (Perm)
theorem erase_perm {l : List It} {i : Nat} (hi : i < l.length) : Perm (at' l i :: l.eraseIdx i) l := by
 rw [List.eraseIdx_eq_take_drop_succ, at_lt hi]
 refine List.perm_middle.symm.trans ?_
 rw [← List.drop_eq_getElem_cons hi, List.take_append_drop]
noncomputable def fixR (l : List It) (i : Nat) : List It := upR (downR l i) i
theorem fixR_spec {l : List It} {i : Nat} (hi : i < l.length) (h : DownInv 0 l i) : Perm (fixR l i) l ∧ HeapL (fixR l i) := by
 obtain ⟨r, j, he, r', j', he', hp, hh⟩ := fix_spec hi h
 unfold fixR
 rw [downR_of he, upR_of he']
 exact ⟨hp, hh⟩
noncomputable def setH (h : List It) (i : Nat) (x : It) : List It := fixR (h.set i x) i
def moveL (h : List It) (i : Nat) : List It := (h.set i (at' h (h.length - 1))).take (h.length - 1)
noncomputable def cutH (h : List It) (i : Nat) : List It := bif decide (i < h.length - 1) then fixR (moveL h i) i else moveL h i
theorem moveL_len (h : List It) (i : Nat) : (moveL h i).length = h.length - 1 := by unfold moveL; simp
theorem cutH_spec {h : List It} {i : Nat} (hh : HeapL h) (hi : i < h.length) : Perm (cutH h i) (h.eraseIdx i) ∧ HeapL (cutH h i) := by
 have hp : Perm (moveL h i) (h.eraseIdx i) := List.Perm.cons_inv ((cut_perm hi).trans (erase_perm hi).symm)
 unfold cutH
 by_cases e : i < h.length - 1
 ·rw [decide_eq_true e, cond_true]
  obtain ⟨h1, h2⟩ := fixR_spec (l := moveL h i) (by rw [moveL_len]; exact e) (cut_inv hh (by omega))
  exact ⟨h1.trans hp, h2⟩
 ·rw [decide_eq_false e, cond_false]
  refine ⟨hp, fun k hk hkl => ?_⟩
  rw [moveL_len] at hkl
  have e1 : ∀ k, k < h.length - 1 → at' (moveL h i) k = at' h k := fun k hk => by
   rw [at_lt (by rw [moveL_len]; exact hk)]
   unfold moveL
   rw [List.getElem_take, ← at_lt (by rw [List.length_set]; omega), at_set hi, if_neg (by omega)]
  unfold okAt
  rw [e1 k hkl, e1 _ (by omega)]
  exact hh k hk (by omega)
def placeI (id : Int) : List It → Option Nat
 | [] => none
 | x :: l => if x.2 = id then some 0 else (placeI id l).map (· + 1)
theorem own_of_heap {l : List It} (h : HeapL l) : ownH l = l := by unfold ownH; rw [isH_iff.2 h]; rfl
end Go.Proofs.Gv
