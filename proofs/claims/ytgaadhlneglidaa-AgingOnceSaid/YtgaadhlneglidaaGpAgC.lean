/-
Aging: a queue that is turned is the same; two that are one.
-/
import Derived.Test.YtgaadhlneglidaaGpAgB
namespace Go.Proofs.Gv
open Go.Proofs
set_option linter.unusedVariables false
variable {tk tk2 : Tk} {es es2 : List (List AV)} {l l2 id : Int}
abbrev okQ (es : List (List AV)) : Prop := ∀ x ∈ es, okKL [.int .i64, .int .i64, .int .i64, .int .i64] x
theorem getD_mem {i : Nat} (hi : i < es.length) : es.getD i [] ∈ es := by
  rw [List.getD_eq_getElem?_getD, List.getElem?_eq_getElem hi]
  exact List.getElem_mem hi
theorem row_eq (h : okQ es) {i : Nat} (hi : i < es.length) : es.getD i [] = [.int .i64 (q0 es i), .int .i64 (q1 es i), .int .i64 (q2 es i), .int .i64 (q3 es i)] := by
  have h1 := h _ (getD_mem hi)
  unfold q0 q1 q2 q3
  generalize es.getD i [] = x at h1
  simp only [okKL, okK] at h1
  obtain ⟨_, _, rfl, ⟨a, rfl, ha⟩, _, _, rfl, ⟨b, rfl, hb⟩, _, _, rfl, ⟨c, rfl, hc⟩, _, _, rfl, ⟨d, rfl, hd⟩, rfl⟩ := h1
  rfl
theorem row_in (h : okQ es) {i : Nat} (hi : i < es.length) : (-9223372036854775808 ≤ q0 es i ∧ q0 es i ≤ 9223372036854775807) ∧ (-9223372036854775808 ≤ q1 es i ∧ q1 es i ≤ 9223372036854775807) ∧ (-9223372036854775808 ≤ q2 es i ∧ q2 es i ≤ 9223372036854775807) ∧ (-9223372036854775808 ≤ q3 es i ∧ q3 es i ≤ 9223372036854775807) := by
  have h1 := h _ (getD_mem hi)
  unfold q0 q1 q2 q3
  generalize es.getD i [] = x at h1
  simp only [okKL, okK] at h1
  obtain ⟨_, _, rfl, ⟨a, rfl, ha⟩, _, _, rfl, ⟨b, rfl, hb⟩, _, _, rfl, ⟨c, rfl, hc⟩, _, _, rfl, ⟨d, rfl, hd⟩, rfl⟩ := h1
  have k : ∀ x : Int, (decide (-9223372036854775808 ≤ x) && decide (x ≤ 9223372036854775807)) = true → -9223372036854775808 ≤ x ∧ x ≤ 9223372036854775807 := fun x h => by simpa using h
  exact ⟨k _ ha, k _ hb, k _ hc, k _ hd⟩
theorem ends9 (h : okQ es) (hN : es.length ≤ 1000) : Ends (g9_3 (l, l, es, 0)) (n9_3 (l, l, es, 0)) ((0 : Int), []) ((es.length : Int), es) := by
  have h1 := Ends.count (go := g9_3 (l, l, es, 0)) (next := n9_3 (l, l, es, 0)) es.length (fun i => ((i : Int), es.take i)) (fun i hi => by
    have hl : (es.take i).length = i := by rw [List.length_take]; omega
    have he : es.take (i + 1) = es.take i ++ [[.int .i64 (q0 es i), .int .i64 (q1 es i), .int .i64 (q2 es i), .int .i64 (q3 es i)]] := by
      rw [Gv.take_step [] hi, row_eq h hi]
    constructor
    · show go9_3 (i : Int) l l es 0 (es.take i) = true
      unfold go9_3 rn9_3_0
      rw [decide_eq_true (show (i : Int) < (es.length : Int) by omega), decide_eq_true (show (0 : Int) ≤ (i : Int) by omega), hl]
      dsimp only [List.length_singleton, List.length_cons, List.length_nil]
      rw [decide_eq_true (show (i + (0 + 1)) * 32 ≤ 140737488355328 by omega), decide_eq_true (show i + (0 + 1) ≤ 9223372036854775807 by omega)]
      rfl
    · show (nx9_3_0 (i : Int) l l es 0 (es.take i), nx9_3_5 (i : Int) l l es 0 (es.take i)) = _
      unfold nx9_3_0 nx9_3_5 rn9_3_0
      rw [nxt i _ hi hN, Int.toNat_natCast]
      exact Prod.ext rfl he.symm) (by
    show go9_3 (es.length : Int) l l es 0 (es.take es.length) = false
    unfold go9_3
    rw [decide_eq_false (by omega)]
    rfl)
  rw [List.take_length] at h1
  exact h1
theorem r9 (h : okQ es) (hN : es.length ≤ 1000) : vev9_0 l es = es ∧ vev9_1 l es = true := by
  have h1 := (ends9 (l := l) h hN).fin
  unfold vev9_0 vev9_1 rev9_0
  simp only [spI]
  rw [h1.2, h1.1]
  refine ⟨rfl, ?_⟩
  unfold z9_3 xc9_3_0
  dsimp only
  rw [decide_eq_false (by omega)]
  rfl
theorem ends17 (h : okQ es) (hN : es.length ≤ 1000) : Ends (g17_3 (l, l, es, 0)) (n17_3 (l, l, es, 0)) ((0 : Int), []) ((es.length : Int), es) := by
  have h1 := Ends.count (go := g17_3 (l, l, es, 0)) (next := n17_3 (l, l, es, 0)) es.length (fun i => ((i : Int), es.take i)) (fun i hi => by
    have hl : (es.take i).length = i := by rw [List.length_take]; omega
    have he : es.take (i + 1) = es.take i ++ [[.int .i64 (q0 es i), .int .i64 (q1 es i), .int .i64 (q2 es i), .int .i64 (q3 es i)]] := by
      rw [Gv.take_step [] hi, row_eq h hi]
    constructor
    · show go17_3 (i : Int) l l es 0 (es.take i) = true
      unfold go17_3 rn17_3_0
      rw [decide_eq_true (show (i : Int) < (es.length : Int) by omega), decide_eq_true (show (0 : Int) ≤ (i : Int) by omega), hl]
      dsimp only [List.length_singleton, List.length_cons, List.length_nil]
      rw [decide_eq_true (show (i + (0 + 1)) * 32 ≤ 140737488355328 by omega), decide_eq_true (show i + (0 + 1) ≤ 9223372036854775807 by omega)]
      rfl
    · show (nx17_3_0 (i : Int) l l es 0 (es.take i), nx17_3_5 (i : Int) l l es 0 (es.take i)) = _
      unfold nx17_3_0 nx17_3_5 rn17_3_0
      rw [nxt i _ hi hN, Int.toNat_natCast]
      exact Prod.ext rfl he.symm) (by
    show go17_3 (es.length : Int) l l es 0 (es.take es.length) = false
    unfold go17_3
    rw [decide_eq_false (by omega)]
    rfl)
  rw [List.take_length] at h1
  exact h1
theorem r17 (h : okQ es) (hN : es.length ≤ 1000) : vev17_0 l es = es ∧ vev17_1 l es = true := by
  have h1 := (ends17 (l := l) h hN).fin
  unfold vev17_0 vev17_1 rev17_0
  simp only [spI]
  rw [h1.2, h1.1]
  refine ⟨rfl, ?_⟩
  unfold z17_3 xc17_3_0
  dsimp only
  rw [decide_eq_false (by omega)]
  rfl
/-- Two requests at a place differ. -/
noncomputable def df (es es2 : List (List AV)) (i : Nat) : Bool := !(q0 es i == q0 es2 i && (q1 es i == q1 es2 i && (q2 es i == q2 es2 i && (q3 es i == q3 es2 i && true))))
noncomputable def eqQ (es es2 : List (List AV)) : Bool := bif decide (es.length = es2.length) then !decide (ff (df es es2) es.length < es.length) else false
theorem ends41 (hN : es.length ≤ 1000) (he : es.length = es2.length) : Ends (g41_4 (tk, es, tk2, es2, (es.length : Int))) (n41_4 (tk, es, tk2, es2, (es.length : Int))) (0 : Int) ((ff (df es es2) es.length : Nat) : Int) := by
  refine Ends.first _ _ (fun i hi => ?_) (fun i hi => nxt i _ hi hN)
  show go41_4 tk es tk2 es2 (es.length : Int) (i : Int) = _
  unfold go41_4
  rw [Int.toNat_natCast, ← he]
  by_cases h : i < es.length
  · rw [decide_eq_true (show (i : Int) < (es.length : Int) by omega), decide_eq_true h, decide_eq_true (show (0 : Int) ≤ (i : Int) by omega)]
    show (bif df es es2 i then false else true) = _
    cases (df es es2 i) <;> rfl
  · rw [decide_eq_false (show ¬ (i : Int) < (es.length : Int) by omega), decide_eq_false h]
    rfl
theorem r41 (hN : es.length ≤ 1000) : vev41_0 tk es tk2 es2 = eqQ es es2 ∧ vev41_1 tk es tk2 es2 = true := by
  unfold vev41_0 vev41_1 eqQ
  by_cases he : es.length = es2.length
  · rw [show ((es.length : Int) != (es2.length : Int)) = false by rw [he]; simp, decide_eq_true he]
    have h := (ends41 (tk := tk) (tk2 := tk2) hN he).fin
    have h0 := ff_le (df es es2) es.length
    unfold rev41_0
    simp only [spI]
    rw [h.2, h.1]
    unfold y41_4 z41_4 xc41_4_0 xc41_4_1
    dsimp only
    rw [Int.toNat_natCast, ← he]
    by_cases h2 : ff (df es es2) es.length < es.length
    · have h3 := ff_hit h2
      rw [decide_eq_true (show ((ff (df es es2) es.length : Nat) : Int) < (es.length : Int) by omega), decide_eq_true (show (0 : Int) ≤ ((ff (df es es2) es.length : Nat) : Int) by omega), decide_eq_true h2]
      generalize ff (df es es2) es.length = k at h3
      have h4 : (!(intOf ((es.getD k []).getD 0 AV.junk) == intOf ((es2.getD k []).getD 0 AV.junk) && (intOf ((es.getD k []).getD (0 + 1) AV.junk) == intOf ((es2.getD k []).getD (0 + 1) AV.junk) && (intOf ((es.getD k []).getD (0 + 1 + 1) AV.junk) == intOf ((es2.getD k []).getD (0 + 1 + 1) AV.junk) && (intOf ((es.getD k []).getD (0 + 1 + 1 + 1) AV.junk) == intOf ((es2.getD k []).getD (0 + 1 + 1 + 1) AV.junk) && true))))) = true := h3
      simp only [h4]
      exact ⟨rfl, rfl⟩
    · rw [decide_eq_false (show ¬ ((ff (df es es2) es.length : Nat) : Int) < (es.length : Int) by omega), decide_eq_false h2]
      exact ⟨rfl, rfl⟩
  · rw [show ((es.length : Int) != (es2.length : Int)) = true by simp; omega, decide_eq_false he]
    exact ⟨rfl, rfl⟩
theorem r26 (hN : es.length ≤ 1000) : vev26_0 l tk es l2 tk2 es2 = (l == l2 && eqQ es es2) ∧ vev26_1 l tk es l2 tk2 es2 = true := by
  unfold vev26_0 vev26_1
  rw [(r41 hN).1, (r41 hN).2]
  cases (l == l2) <;> cases eqQ es es2 <;> exact ⟨rfl, rfl⟩
theorem ends16 (hN : es.length ≤ 1000) (he : es.length = es2.length) : Ends (g16_4 (l, tk, es, l2, tk2, es2)) (n16_4 (l, tk, es, l2, tk2, es2)) (0 : Int) ((ff (df es es2) es.length : Nat) : Int) := by
  refine Ends.first _ _ (fun i hi => ?_) (fun i hi => nxt i _ hi hN)
  show go16_4 (i : Int) l tk es l2 tk2 es2 = _
  unfold go16_4
  rw [Int.toNat_natCast, ← he]
  by_cases h : i < es.length
  · rw [decide_eq_true (show (i : Int) < (es.length : Int) by omega), decide_eq_true h, decide_eq_true (show (0 : Int) ≤ (i : Int) by omega)]
    show (bif df es es2 i then false else true) = _
    cases (df es es2 i) <;> rfl
  · rw [decide_eq_false (show ¬ (i : Int) < (es.length : Int) by omega), decide_eq_false h]
    rfl
theorem r16 (hN : es.length ≤ 1000) : vev16_0 l tk es l2 tk2 es2 = (l == l2 && eqQ es es2) ∧ vev16_1 l tk es l2 tk2 es2 = true := by
  unfold vev16_0 vev16_1 eqQ
  rw [show (l != l2) = !(l == l2) from rfl]
  by_cases he : es.length = es2.length
  · rw [show ((es.length : Int) != (es2.length : Int)) = false by rw [he]; simp, decide_eq_true he]
    have h := (ends16 (tk := tk) (tk2 := tk2) (l := l) (l2 := l2) hN he).fin
    have h0 := ff_le (df es es2) es.length
    unfold rev16_0
    simp only [spI]
    rw [h.2, h.1]
    unfold y16_4 z16_4 xc16_4_0 xc16_4_1
    dsimp only
    rw [Int.toNat_natCast, ← he]
    by_cases h2 : ff (df es es2) es.length < es.length
    · have h3 := ff_hit h2
      rw [decide_eq_true (show ((ff (df es es2) es.length : Nat) : Int) < (es.length : Int) by omega), decide_eq_true (show (0 : Int) ≤ ((ff (df es es2) es.length : Nat) : Int) by omega), decide_eq_true h2]
      generalize ff (df es es2) es.length = k at h3
      have h4 : (!(intOf ((es.getD k []).getD 0 AV.junk) == intOf ((es2.getD k []).getD 0 AV.junk) && (intOf ((es.getD k []).getD (0 + 1) AV.junk) == intOf ((es2.getD k []).getD (0 + 1) AV.junk) && (intOf ((es.getD k []).getD (0 + 1 + 1) AV.junk) == intOf ((es2.getD k []).getD (0 + 1 + 1) AV.junk) && (intOf ((es.getD k []).getD (0 + 1 + 1 + 1) AV.junk) == intOf ((es2.getD k []).getD (0 + 1 + 1 + 1) AV.junk) && true))))) = true := h3
      simp only [h4]
      cases (l == l2) <;> exact ⟨rfl, rfl⟩
    · rw [decide_eq_false (show ¬ ((ff (df es es2) es.length : Nat) : Int) < (es.length : Int) by omega), decide_eq_false h2]
      cases (l == l2) <;> exact ⟨rfl, rfl⟩
  · rw [show ((es.length : Int) != (es2.length : Int)) = true by simp; omega, decide_eq_false he]
    cases (l == l2) <;> exact ⟨rfl, rfl⟩
end Go.Proofs.Gv
