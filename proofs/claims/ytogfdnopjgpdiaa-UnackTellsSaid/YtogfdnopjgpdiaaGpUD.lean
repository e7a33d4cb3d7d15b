/-
Unack: the values of a setting; the least and the greatest one.
-/
import Derived.Test.YtogfdnopjgpdiaaGpUC
namespace Go.Proofs.Gv
open Go.Proofs
set_option linter.unusedVariables false
variable {tk tk2 : Tk} {es es2 : List (List AV)}
theorem r19t {now most : Int} : vev19_1 tk es now most = true := by
  unfold vev19_1
  rw [show ((es.length : Int) == 0) = !decide (0 < es.length) from Bool.eq_iff_iff.2 (by simp), show decide ((0 : Int) < (es.length : Int)) = decide (0 < es.length) from decide_eq_decide.2 (by omega)]
  generalize decide (most < 0) = m
  generalize decide (now < rev19_0 tk es now most) = n
  cases decide (0 < es.length) <;> cases m <;> cases n <;> rfl
theorem r20 {now most : Int} : vev20_0 tk es now most = vev19_0 tk2 es now most ∧ vev20_1 tk es now most = true := ⟨rfl, r19t (tk := tk)⟩
/-- The values of a setting in a list, as rows. -/
def vrow (id : Int) (e : List AV) : Option (List AV) := bif intOf (e.getD 0 .junk) == id then some [.int .i64 (IntKind.i64.wrap (intOf (e.getD 1 .junk)))] else none
def vrows (id : Int) (l : List (List AV)) : List (List AV) := l.filterMap (vrow id)
def vall (id : Int) (es : List (List AV)) : List (List AV) := es.flatMap fun e => vrows id (elsO (e.getD 0 .junk))
theorem vrows_len (id : Int) (l : List (List AV)) : (vrows id l).length ≤ l.length := List.length_filterMap_le _ _
theorem vrows_take {id : Int} {l : List (List AV)} {j : Nat} (h : j < l.length) : vrows id (l.take (j + 1)) = vrows id (l.take j) ++ (vrow id (l.getD j [])).toList := by
  rw [take_step [] h]
  unfold vrows
  rw [List.filterMap_append]
  congr 1
theorem vall_take {id : Int} {i : Nat} (h : i < es.length) : vall id (es.take (i + 1)) = vall id (es.take i) ++ vrows id (pr es i) := by
  rw [take_step [] h]
  unfold vall
  rw [List.flatMap_append]
  simp [pr]
theorem vall_len {id : Int} (hS : ∀ i, i < es.length → (pr es i).length ≤ 1000) : ∀ i, i ≤ es.length → (vall id (es.take i)).length ≤ i * 1000 := by
  intro i
  induction i with
  | zero => intro _; simp [vall]
  | succ i ih =>
    intro h
    rw [vall_take (by omega), List.length_append]
    have := ih (by omega)
    have h2 := vrows_len id (pr es i)
    have h3 := hS i (by omega)
    omega
theorem in36 {id : Int} {b1 : List (List AV)} {i : Nat} (hi : i < es.length) (hl : (pr es i).length ≤ 1000) (hb : b1.length ≤ 1000000) : Ends (g36_6 (tk, es, id, (i : Int))) (n36_6 (tk, es, id, (i : Int))) ((0 : Int), b1) (((pr es i).length : Int), b1 ++ vrows id (pr es i)) := by
  have h := Ends.count (go := g36_6 (tk, es, id, (i : Int))) (next := n36_6 (tk, es, id, (i : Int))) (pr es i).length (fun j => ((j : Int), b1 ++ vrows id ((pr es i).take j))) (fun j hj => by
    have hlen := vrows_len id ((pr es i).take j)
    rw [List.length_take] at hlen
    have e0 : ∀ b, rn36_6_0 tk es id (i : Int) (j : Int) b = pr es i := fun b => by unfold rn36_6_0 pr; rw [Int.toNat_natCast]
    refine ⟨?_, ?_⟩
    · show go36_6 tk es id (i : Int) (j : Int) _ = true
      unfold go36_6 rn36_6_2 rn36_6_1
      rw [e0, dge, dge, dlt, dlt, decide_eq_true hi, decide_eq_true hj, List.length_append]
      simp only [List.length_cons, List.length_nil]
      rw [decide_eq_true (show (b1.length + (vrows id ((pr es i).take j)).length + (0 + 1)) * 8 ≤ 140737488355328 by omega), decide_eq_true (show b1.length + (vrows id ((pr es i).take j)).length + (0 + 1) ≤ 9223372036854775807 by omega)]
      simp only [Bool.and_true, cond_true, Bool.cond_self]
    · show (nx36_6_4 tk es id (i : Int) (j : Int) _, nx36_6_5 tk es id (i : Int) (j : Int) _) = _
      unfold nx36_6_4 nx36_6_5 rn36_6_2
      rw [e0, step64 j _ hj (by omega), Int.toNat_natCast, vrows_take hj, ← List.append_assoc]
      unfold vrow
      show (_, bif intOf (((pr es i).getD j []).getD 0 AV.junk) == id then _ else _) = _
      cases intOf (((pr es i).getD j []).getD 0 AV.junk) == id
      · simp
      · rfl) (by
    show go36_6 tk es id (i : Int) ((pr es i).length : Int) _ = false
    unfold go36_6 rn36_6_1
    rw [show ∀ b, rn36_6_0 tk es id (i : Int) ((pr es i).length : Int) b = pr es i from fun b => by unfold rn36_6_0 pr; rw [Int.toNat_natCast], dge, dlt, dlt, decide_eq_true hi, decide_eq_false (Nat.lt_irrefl _)]
    rfl)
  have e : (((0 : Nat) : Int), b1 ++ vrows id ((pr es i).take 0)) = ((0 : Int), b1) := by simp [vrows]
  rw [e, List.take_length] at h
  exact h
theorem r36 {id : Int} (hN : es.length ≤ 100) (hS : ∀ i, i < es.length → (pr es i).length ≤ 1000) : vev36_0 tk es id = vall id es ∧ vev36_1 tk es id = true := by
  have h := (Ends.count (go := g36_3 (tk, es, id)) (next := n36_3 (tk, es, id)) es.length (fun i => ((i : Int), vall id (es.take i))) (fun i hi => by
    have hb := vall_len (id := id) hS i (by omega)
    have f := (in36 (tk := tk) (id := id) (b1 := vall id (es.take i)) hi (hS i hi) (by omega)).fin
    refine ⟨?_, ?_⟩
    · show go36_3 tk es id (i : Int) _ = true
      unfold go36_3
      rw [dlt, decide_eq_true hi]
      simp only [spI]
      rw [f.1, f.2]
      unfold z36_6 xc36_6_0 rn36_6_1
      dsimp only
      rw [show ∀ b, rn36_6_0 tk es id (i : Int) ((pr es i).length : Int) b = pr es i from fun b => by unfold rn36_6_0 pr; rw [Int.toNat_natCast], dge, dlt, dlt, decide_eq_true hi, decide_eq_false (Nat.lt_irrefl _)]
      rfl
    · show (nx36_3_3 tk es id (i : Int) _, nx36_3_4 tk es id (i : Int) _) = _
      unfold nx36_3_3 nx36_3_4 rn36_3_0
      rw [step64 i _ hi (by omega), f.2, vall_take hi]) (by
    show go36_3 tk es id (es.length : Int) _ = false
    unfold go36_3
    rw [dlt, decide_eq_false (by omega)]
    rfl)).fin
  unfold vev36_0 vev36_1 rev36_0
  simp only [spI]
  rw [show ((0 : Int), ([] : List (List AV))) = (((0 : Nat) : Int), vall id (es.take 0)) from rfl, h.2, h.1, List.take_of_length_le (Nat.le_refl _)]
  refine ⟨rfl, ?_⟩
  unfold z36_3 xc36_3_0
  dsimp only
  rw [dlt, decide_eq_false (by omega)]
  rfl
theorem valP_rows (id : Int) (l : List (List AV)) : (vrows id l).map (fun e => intOf (e.getD 0 .junk)) = valP id (l.map fun p => (intOf (p.getD 0 .junk), intOf (p.getD 1 .junk))) := by
  induction l with
  | nil => rfl
  | cons e l ih =>
    unfold vrows valP at ih ⊢
    rw [List.filterMap_cons, List.map_cons, List.filterMap_cons]
    unfold vrow at ih ⊢
    by_cases h : intOf (e.getD 0 .junk) = id
    · rw [show (intOf (e.getD 0 .junk) == id) = true by simpa using h]
      simp only [cond_true, h, if_true, List.map_cons]
      rw [ih]
      show IntKind.i64.wrap _ :: _ = _
      rw [show RowKit.wrap64 (intOf (e.getD 1 AV.junk)) = IntKind.i64.wrap (intOf (e.getD 1 AV.junk)) by rw [IntKind.wrap_i64]; simp only [RowKit.wrap64]]
    · rw [show (intOf (e.getD 0 .junk) == id) = false by simpa using h]
      simp only [cond_false, h, if_false]
      exact ih
theorem valQ_all (id : Int) (es : List (List AV)) : (vall id es).map (fun e => intOf (e.getD 0 .junk)) = valQ id (es.map itm) := by
  induction es with
  | nil => rfl
  | cons e es ih =>
    unfold vall valQ at ih ⊢
    rw [List.flatMap_cons, List.map_append, List.map_cons, List.flatMap_cons, ih, valP_rows]
    rfl
theorem minS (m v : Int) : (if (if false = true then m < v else v < m) then v else m) = min m v := by
  simp only [Bool.false_eq_true, if_false]
  split <;> omega
theorem maxS (m v : Int) : (if (if true = true then m < v else v < m) then v else m) = max m v := by
  simp only [if_true]
  split <;> omega
theorem r22 {id held : Int} (hN : es.length ≤ 100) (hS : ∀ i, i < es.length → (pr es i).length ≤ 1000) : vev22_0 tk es id held = leastL id held es ∧ vev22_1 tk es id held = true := by
  obtain ⟨e0, e1⟩ := r36 (tk := tk) (id := id) hN hS
  have hl := vall_len (id := id) hS es.length (Nat.le_refl _)
  rw [List.take_length] at hl
  unfold vev22_0 vev22_1 rev22_0 leastL
  rw [e0, e1, ← valQ_all]
  generalize vall id es = t at hl ⊢
  have h := (Ends.count (go := g22_3 t) (next := n22_3 t) t.length (fun i => (((t.take i).map (fun e => intOf (e.getD 0 .junk))).foldl (fun a b => min a b) held, (i : Int))) (fun i hi => by
    refine ⟨?_, ?_⟩
    · show go22_3 _ t (i : Int) = true
      unfold go22_3
      rw [dge, dlt, decide_eq_true hi]
      rfl
    · show (nx22_3_0 _ t (i : Int), nx22_3_2 _ t (i : Int)) = _
      unfold nx22_3_0 nx22_3_2 rn22_3_0
      rw [step64 i _ hi (by omega), Int.toNat_natCast, take_step [] hi, List.map_append, List.foldl_append]
      exact Prod.ext (minS _ _) rfl) (by
    show go22_3 _ t (t.length : Int) = false
    unfold go22_3
    rw [dlt, decide_eq_false (by omega)]
    rfl)).fin
  simp only [spI]
  rw [show (held, (0 : Int)) = (((t.take 0).map (fun e => intOf (e.getD 0 .junk))).foldl (fun a b => min a b) held, ((0 : Nat) : Int)) from rfl, h.2, h.1, List.take_of_length_le (Nat.le_refl _)]
  refine ⟨rfl, ?_⟩
  unfold z22_3 xc22_3_0
  dsimp only
  rw [dlt, decide_eq_false (by omega)]
  rfl
theorem r24 {id held : Int} (hN : es.length ≤ 100) (hS : ∀ i, i < es.length → (pr es i).length ≤ 1000) : vev24_0 tk es id held = greatestL id held es ∧ vev24_1 tk es id held = true := by
  obtain ⟨e0, e1⟩ := r36 (tk := tk) (id := id) hN hS
  have hl := vall_len (id := id) hS es.length (Nat.le_refl _)
  rw [List.take_length] at hl
  unfold vev24_0 vev24_1 rev24_0 greatestL
  rw [e0, e1, ← valQ_all]
  generalize vall id es = t at hl ⊢
  have h := (Ends.count (go := g24_3 t) (next := n24_3 t) t.length (fun i => (((t.take i).map (fun e => intOf (e.getD 0 .junk))).foldl (fun a b => max a b) held, (i : Int))) (fun i hi => by
    refine ⟨?_, ?_⟩
    · show go24_3 _ t (i : Int) = true
      unfold go24_3
      rw [dge, dlt, decide_eq_true hi]
      rfl
    · show (nx24_3_0 _ t (i : Int), nx24_3_2 _ t (i : Int)) = _
      unfold nx24_3_0 nx24_3_2 rn24_3_0
      rw [step64 i _ hi (by omega), Int.toNat_natCast, take_step [] hi, List.map_append, List.foldl_append]
      exact Prod.ext (maxS _ _) rfl) (by
    show go24_3 _ t (t.length : Int) = false
    unfold go24_3
    rw [dlt, decide_eq_false (by omega)]
    rfl)).fin
  simp only [spI]
  rw [show (held, (0 : Int)) = (((t.take 0).map (fun e => intOf (e.getD 0 .junk))).foldl (fun a b => max a b) held, ((0 : Nat) : Int)) from rfl, h.2, h.1, List.take_of_length_le (Nat.le_refl _)]
  refine ⟨rfl, ?_⟩
  unfold z24_3 xc24_3_0
  dsimp only
  rw [dlt, decide_eq_false (by omega)]
  rfl
end Go.Proofs.Gv
