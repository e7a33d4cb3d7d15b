/-
Heap's document: order, the first place, what is left, upon lists.
-/
import Derived.Test.YtjbohlgfhfehdaaGpHq
namespace Go.Proofs.Gv
open Go.Proofs
open List (Perm)
set_option linter.unusedVariables false
theorem row1 {l : List It} {i : Nat} (h : i < l.length) : [[AV.int IntKind.i64 (intOf (((R l).getD (i : Int).toNat []).getD 0 AV.junk)), AV.int IntKind.i64 (intOf (((R l).getD (i : Int).toNat []).getD (0 + 1) AV.junk))]] = R [at' l i] := by
  rw [Int.toNat_natCast, R_get h]
  rfl
theorem take_at {l : List It} {i : Nat} (h : i < l.length) : l.take (i + 1) = l.take i ++ [at' l i] := by
  rw [at_lt h, List.take_succ_eq_append_getElem h]
theorem own8 {l : List It} (hl : l.length ≤ 1000) : vev8_0 (R l) = R l ∧ vev8_1 (R l) = true := by
  have e : Ends (g8_3 (R l)) (n8_3 (R l)) ((0 : Int), []) ((l.length : Int), R (l.take l.length)) := by
    refine Ends.count (go := g8_3 (R l)) (next := n8_3 (R l)) l.length (fun i => ((i : Int), R (l.take i))) (fun i hi => ⟨?_, ?_⟩) ?_
    · unfold g8_3 go8_3 rn8_3_0
      dsimp only
      rw [row1 hi, R_len, R_len, R_len, List.length_take, List.length_singleton, decide_eq_true (show (i : Int) < (l.length : Int) by omega), decide_eq_true (show (0 : Int) ≤ (i : Int) by omega), decide_eq_true (show (min i l.length + 1) * 16 ≤ 140737488355328 by omega), decide_eq_true (show min i l.length + 1 ≤ 9223372036854775807 by omega)]
      rfl
    · unfold n8_3 nx8_3_1 nx8_3_2 rn8_3_0
      dsimp only
      rw [row1 hi, wrapOf _ (by omega) (by omega), ← R_app, ← take_at hi]
      rfl
    · unfold g8_3 go8_3
      dsimp only
      rw [R_len, decide_eq_false (by omega)]
      rfl
  have f := e.fin
  unfold vev8_0 vev8_1 rev8_0
  simp only [spI]
  rw [f.2, f.1]
  unfold y8_3 z8_3 xc8_3_0
  dsimp only
  rw [R_len, decide_eq_false (by omega), List.take_length]
  exact ⟨rfl, rfl⟩
theorem back10 (tk : Tk) {l : List It} (hl : l.length ≤ 1000) : vev10_0 tk (R l) = R l ∧ vev10_1 tk (R l) = true := by
  have e : Ends (g10_3 (tk, R l)) (n10_3 (tk, R l)) ((0 : Int), []) ((l.length : Int), R (l.take l.length)) := by
    refine Ends.count (go := g10_3 (tk, R l)) (next := n10_3 (tk, R l)) l.length (fun i => ((i : Int), R (l.take i))) (fun i hi => ⟨?_, ?_⟩) ?_
    · unfold g10_3 go10_3 rn10_3_0
      dsimp only
      rw [row1 hi, R_len, R_len, R_len, List.length_take, List.length_singleton, decide_eq_true (show (i : Int) < (l.length : Int) by omega), decide_eq_true (show (0 : Int) ≤ (i : Int) by omega), decide_eq_true (show (min i l.length + 1) * 16 ≤ 140737488355328 by omega), decide_eq_true (show min i l.length + 1 ≤ 9223372036854775807 by omega)]
      rfl
    · unfold n10_3 nx10_3_2 nx10_3_3 rn10_3_0
      dsimp only
      rw [row1 hi, wrapOf _ (by omega) (by omega), ← R_app, ← take_at hi]
      rfl
    · unfold g10_3 go10_3
      dsimp only
      rw [R_len, decide_eq_false (by omega)]
      rfl
  have f := e.fin
  unfold vev10_0 vev10_1 rev10_0
  simp only [spI]
  rw [f.2, f.1]
  unfold y10_3 z10_3 xc10_3_0
  dsimp only
  rw [R_len, decide_eq_false (by omega), List.take_length]
  exact ⟨rfl, rfl⟩
theorem v16 (a b c d : Int) : vev16_0 a b c d = ltI (a, b) (c, d) := by
  unfold vev16_0 ltI
  show (bif a != c then decide (a < c) else decide (b < d)) = (decide (a < c) || (a == c && decide (b < d)))
  by_cases h : a = c
  · subst h
    rw [bne_self_eq_false, cond_false, beq_self_eq_true, decide_eq_false (show ¬ a < a by omega)]
    cases decide (b < d) <;> rfl
  · rw [bne_iff_ne.2 h, cond_true, beq_eq_false_iff_ne.2 h]
    cases decide (a < c) <;> rfl
theorem chk14 (tk : Tk) {l : List It} (hl : l.length ≤ 1000000) : vev14_0 tk (R l) = (bif isH l then 0 else 10) ∧ vev14_1 tk (R l) = true := by
  have e : ∀ k : Nat, 0 < k → k ≤ 1000000 → rn14_2_0 tk (R l) (k : Int) = (((k - 1) / 2 : Nat) : Int) := fun k h0 hk => half h0 hk
  have at1 : ∀ k : Nat, 0 < k → k < l.length → vev16_0 (intOf (((R l).getD (k : Int).toNat []).getD 0 AV.junk)) (intOf (((R l).getD (k : Int).toNat []).getD (0 + 1) AV.junk)) (intOf (((R l).getD (((k - 1) / 2 : Nat) : Int).toNat []).getD 0 AV.junk)) (intOf (((R l).getD (((k - 1) / 2 : Nat) : Int).toNat []).getD (0 + 1) AV.junk)) = ltI (at' l k) (at' l ((k - 1) / 2)) := fun k h0 hk => by
    have hp : (k - 1) / 2 < l.length := by omega
    rw [Int.toNat_natCast, Int.toNat_natCast, R_key hk, R_id hk, R_key hp, R_id hp, v16]
  have go : ∀ k : Nat, 0 < k → k < l.length → g14_2 (tk, R l) (k : Int) = !(ltI (at' l k) (at' l ((k - 1) / 2))) := fun k h0 hk => by
    have hp : (k - 1) / 2 < l.length := by omega
    unfold g14_2 go14_2
    dsimp only
    rw [e k h0 (by omega), at1 k h0 hk, R_len, decide_eq_true (show (k : Int) < (l.length : Int) by omega), decide_eq_true (show (0 : Int) ≤ (k : Int) by omega), decide_eq_true (show (0 : Int) ≤ (((k - 1) / 2 : Nat) : Int) by omega), decide_eq_true (show (((k - 1) / 2 : Nat) : Int) < (l.length : Int) by omega)]
    cases ltI (at' l k) (at' l ((k - 1) / 2)) <;> rfl
  have nx : ∀ k : Nat, k < l.length → n14_2 (tk, R l) (k : Int) = ((k + 1 : Nat) : Int) := fun k hk => by
    unfold n14_2 nx14_2_2
    rw [wrapOf _ (by omega) (by omega)]
    rfl
  have key : ∀ (n k : Nat), l.length - k = n → 0 < k → (∀ j, 0 < j → j < k → j < l.length → okAt l j) →
      ∃ r : Nat, Ends (g14_2 (tk, R l)) (n14_2 (tk, R l)) (k : Int) (r : Int) ∧ ((l.length ≤ r ∧ HeapL l) ∨ (0 < r ∧ r < l.length ∧ ltI (at' l r) (at' l ((r - 1) / 2)) = true)) := by
    intro n
    induction n with
    | zero =>
      intro k hk h0 hh
      refine ⟨k, Ends.stop ?_, .inl ⟨by omega, fun j hj hjl => hh j hj (by omega) hjl⟩⟩
      unfold g14_2 go14_2
      dsimp only
      rw [R_len, decide_eq_false (by omega)]
      rfl
    | succ n ih =>
      intro k hk h0 hh
      have hkl : k < l.length := by omega
      cases hb : ltI (at' l k) (at' l ((k - 1) / 2)) with
      | true => exact ⟨k, Ends.stop (by rw [go k h0 hkl, hb]; rfl), .inr ⟨h0, hkl, hb⟩⟩
      | false =>
        obtain ⟨r, hr, hd⟩ := ih (k + 1) (by omega) (by omega) (fun j hj hjk hjl => by
          by_cases ej : j = k
          · subst ej; exact hb
          · exact hh j hj (by omega) hjl)
        exact ⟨r, Ends.step (by rw [go k h0 hkl, hb]; rfl) (by rw [nx k hkl]; exact hr), hd⟩
  obtain ⟨r, hr, hd⟩ := key _ 1 rfl (by omega) (fun j hj h1 _ => by omega)
  have f := hr.fin
  unfold vev14_0 vev14_1 rev14_0
  simp only [spI]
  have f2 : finL (g14_2 (tk, R l)) (n14_2 (tk, R l)) 1 = (r : Int) := f.2
  have f1 : stopsB (g14_2 (tk, R l)) (n14_2 (tk, R l)) 1 = true := f.1
  rw [f2, f1]
  unfold y14_2 z14_2 xc14_2_0 xc14_2_1
  dsimp only
  rcases hd with ⟨h1, h2⟩ | ⟨h1, h2, h3⟩
  · rw [R_len, decide_eq_false (show ¬ (r : Int) < (l.length : Int) by omega), isH_iff.2 h2]
    exact ⟨rfl, rfl⟩
  · have hp : (r - 1) / 2 < l.length := by omega
    have hn : isH l = false := isH_not.2 fun hh => by have := hh r h1 h2; unfold okAt at this; rw [h3] at this; cases this
    rw [e r h1 (by omega), at1 r h1 h2, R_len, decide_eq_true (show (r : Int) < (l.length : Int) by omega), decide_eq_true (show (0 : Int) ≤ (r : Int) by omega), decide_eq_true (show (0 : Int) ≤ (((r - 1) / 2 : Nat) : Int) by omega), decide_eq_true (show (((r - 1) / 2 : Nat) : Int) < (l.length : Int) by omega), h3, hn]
    exact ⟨rfl, rfl⟩
/-! Items in order. -/
section
variable (tk : Tk) {l o : List It} {i : Nat} (hi : i < l.length) (hol : o.length ≤ 1000)
include hi hol
theorem ins12 : ∀ k : Nat, k ≤ o.length → Ends (g12_6 (tk, R l, (i : Int), R o)) (n12_6 (tk, R l, (i : Int), R o)) (k : Int) (insK (at' l i) o k : Int) := by
  intro k
  induction k with
  | zero => intro _; exact Ends.stop (by unfold g12_6 go12_6; rfl)
  | succ k ih =>
    intro hk
    have e : rn12_6_0 tk (R l) (i : Int) ((k + 1 : Nat) : Int) (R o) = (k : Int) := by unfold rn12_6_0; rw [wrapOf _ (by omega) (by omega)]; omega
    have go : g12_6 (tk, R l, (i : Int), R o) ((k + 1 : Nat) : Int) = ltI (at' l i) (at' o k) := by
      unfold g12_6 go12_6
      dsimp only
      rw [e, Int.toNat_natCast, Int.toNat_natCast, R_key hi, R_id hi, R_key (show k < o.length by omega), R_id (show k < o.length by omega), v16, R_len, R_len, decide_eq_true (show ((k + 1 : Nat) : Int) > 0 by omega), decide_eq_true (show (0 : Int) ≤ (i : Int) by omega), decide_eq_true (show (i : Int) < (l.length : Int) by omega), decide_eq_true (show (0 : Int) ≤ (k : Int) by omega), decide_eq_true (show (k : Int) < (o.length : Int) by omega)]
      cases ltI (at' l i) (at' o k) <;> rfl
    unfold insK
    cases hb : ltI (at' l i) (at' o k) with
    | true =>
      rw [cond_true]
      refine Ends.step (by rw [go, hb]) ?_
      have nx : n12_6 (tk, R l, (i : Int), R o) ((k + 1 : Nat) : Int) = (k : Int) := e
      rw [nx]
      exact ih (by omega)
    | false => exact Ends.stop (by rw [go, hb])
theorem spS12 : rn12_3_0 tk (R l) (i : Int) (R o) = (insK (at' l i) o o.length : Int) ∧ (spI g12_6 n12_6 y12_6 z12_6 d12_6 ((tk, R l, (i : Int), R o), ((R o).length : Int))).fst = true := by
  have he := ins12 tk hi hol o.length (Nat.le_refl _)
  have f := he.fin
  have hk := insK_le (at' l i) o o.length
  have hlo := insK_lo (at' l i) o o.length
  refine ⟨by unfold rn12_3_0; rw [R_len, f.2], ?_⟩
  simp only [spI]
  rw [R_len, f.2, f.1]
  unfold y12_6 z12_6 xc12_6_0
  dsimp only
  generalize insK (at' l i) o o.length = k at hk hlo
  cases k with
  | zero => rfl
  | succ k =>
    have e : rn12_6_0 tk (R l) (i : Int) ((k + 1 : Nat) : Int) (R o) = (k : Int) := by unfold rn12_6_0; rw [wrapOf _ (by omega) (by omega)]; omega
    have hb : ltI (at' l i) (at' o k) = false := hlo (by omega)
    rw [e, Int.toNat_natCast, Int.toNat_natCast, R_key hi, R_id hi, R_key (show k < o.length by omega), R_id (show k < o.length by omega), v16, R_len, R_len, decide_eq_true (show ((k + 1 : Nat) : Int) > 0 by omega), decide_eq_true (show (0 : Int) ≤ (i : Int) by omega), decide_eq_true (show (i : Int) < (l.length : Int) by omega), decide_eq_true (show (0 : Int) ≤ (k : Int) by omega), decide_eq_true (show (k : Int) < (o.length : Int) by omega)]
    have hb' : ltI ((at' l i).fst, (at' l i).snd) ((at' o k).fst, (at' o k).snd) = false := hb
    rw [hb']
    rfl
end
theorem bndT {a b c : Int} (h : 0 ≤ a) (h1 : a ≤ b) (h2 : b ≤ c) : bnd a b c = true := by
  unfold bnd
  rw [decide_eq_true h, decide_eq_true h1, decide_eq_true h2]
  rfl
theorem insL_len (x : It) (o : List It) : (insL x o).length = o.length + 1 := by
  have := (insL_perm x o).length_eq
  simpa using this
def sortN (l : List It) (i : Nat) : List It := (l.take i).foldl (fun o x => insL x o) []
theorem sortN_len (l : List It) (i : Nat) (h : i ≤ l.length) : (sortN l i).length = i := by
  have := (sortL_spec (l.take i) [] List.Pairwise.nil).2.length_eq
  unfold sortN
  rw [this]
  simp
  omega
theorem sortN_succ {l : List It} {i : Nat} (h : i < l.length) : sortN l (i + 1) = insL (at' l i) (sortN l i) := by
  unfold sortN
  rw [take_at h, List.foldl_append]
  rfl
theorem sort12 (tk : Tk) {l : List It} (hl : l.length ≤ 1000) : vev12_0 tk (R l) = R (sortL l) ∧ vev12_1 tk (R l) = true := by
  have e : Ends (g12_3 (tk, R l)) (n12_3 (tk, R l)) ((0 : Int), []) ((l.length : Int), R (sortN l l.length)) := by
    refine Ends.count (go := g12_3 (tk, R l)) (next := n12_3 (tk, R l)) l.length (fun i => ((i : Int), R (sortN l i))) (fun i hi => ?_) ?_
    · have hol := sortN_len l i (by omega)
      obtain ⟨s0, s1⟩ := spS12 tk (o := sortN l i) hi (by omega)
      have hk := insK_le (at' l i) (sortN l i) (sortN l i).length
      have t1 : rn12_3_1 tk (R l) (i : Int) (R (sortN l i)) = R ((sortN l i).take (insK (at' l i) (sortN l i) (sortN l i).length)) := by
        unfold rn12_3_1
        rw [s0, Int.toNat_natCast, List.drop_zero]
        unfold R
        rw [List.map_take]
      have t2 : rn12_3_2 tk (R l) (i : Int) (R (sortN l i)) = R [at' l i] := row1 hi
      have t3 : rn12_3_3 tk (R l) (i : Int) (R (sortN l i)) = R ((sortN l i).take (insK (at' l i) (sortN l i) (sortN l i).length) ++ [at' l i]) := by unfold rn12_3_3; rw [t1, t2, R_app]
      have t4 : rn12_3_4 tk (R l) (i : Int) (R (sortN l i)) = R ((sortN l i).drop (insK (at' l i) (sortN l i) (sortN l i).length)) := by
        unfold rn12_3_4
        rw [s0, Int.toNat_natCast, List.take_of_length_le (by rw [List.length_drop, R_len]; exact Nat.le_refl _)]
        unfold R
        rw [List.map_drop]
      generalize hkk : insK (at' l i) (sortN l i) (sortN l i).length = k at *
      refine ⟨?_, ?_⟩
      · unfold g12_3 go12_3
        dsimp only
        rw [s1, s0, t1, t2, t3, t4]
        simp only [R_len, List.length_take, List.length_append, List.length_singleton, List.length_drop, hol]
        rw [bndT (a := 0) (b := (k : Int)) (c := (i : Int)) (by omega) (by omega) (by omega), bndT (a := (k : Int)) (b := (i : Int)) (c := (i : Int)) (by omega) (by omega) (by omega)]
        simp (disch := omega) only [decide_eq_true, cond_true, Bool.and_self]
        first | rfl | skip
        all_goals (repeat rw [decide_eq_true (by omega)])
        all_goals rfl
      · unfold n12_3 nx12_3_2 nx12_3_3
        dsimp only
        rw [t3, t4, wrapOf _ (by omega) (by omega), ← R_app, sortN_succ hi]
        have : (sortN l i).take k ++ [at' l i] ++ (sortN l i).drop k = insL (at' l i) (sortN l i) := by
          unfold insL
          rw [hkk]
          simp
        rw [this]
        rfl
    · unfold g12_3 go12_3
      dsimp only
      rw [R_len, decide_eq_false (by omega)]
      rfl
  have f := e.fin
  unfold vev12_0 vev12_1 rev12_0
  simp only [spI]
  rw [f.2, f.1]
  unfold y12_3 z12_3 xc12_3_0
  dsimp only
  rw [R_len, decide_eq_false (by omega)]
  refine ⟨?_, rfl⟩
  unfold sortN
  rw [List.take_length]
  rfl
theorem with21 (tk : Tk) {l : List It} (hl : l.length ≤ 900) (x : It) : vev21_0 tk (R l) x.1 x.2 = R (sortL (l ++ [x])) ∧ vev21_1 tk (R l) x.1 x.2 = true := by
  have e : rev21_1 tk (R l) x.1 x.2 = R (l ++ [x]) := by unfold rev21_1 rev21_0; rw [R_app]; rfl
  obtain ⟨s0, s1⟩ := sort12 .lent (l := l ++ [x]) (by rw [List.length_append, List.length_singleton]; omega)
  unfold vev21_0 vev21_1
  rw [e, s0, s1, R_len, show (rev21_0 tk (R l) x.1 x.2).length = 1 from rfl, decide_eq_true (show l.length * 16 ≤ 140737488355328 by omega), decide_eq_true (show l.length ≤ 9223372036854775807 by omega), decide_eq_true (show (l.length + 1) * 16 ≤ 140737488355328 by omega), decide_eq_true (show l.length + 1 ≤ 9223372036854775807 by omega)]
  exact ⟨rfl, rfl⟩
theorem first22 (tk : Tk) {l : List It} (hl : l.length ≤ 100000) (id : Int) : vev22_0 tk (R l) id = (match placeI id l with
    | some i => (i : Int)
    | none => -1) ∧ vev22_1 tk (R l) id = true := by
  have go : ∀ k : Nat, k < l.length → g22_2 (tk, R l, id) (k : Int) = !((at' l k).2 == id) := fun k hk => by
    unfold g22_2 go22_2
    dsimp only
    rw [Int.toNat_natCast, R_id hk, R_len, decide_eq_true (show (k : Int) < (l.length : Int) by omega), decide_eq_true (show (0 : Int) ≤ (k : Int) by omega)]
    cases (at' l k).2 == id <;> rfl
  have nx : ∀ k : Nat, k < l.length → n22_2 (tk, R l, id) (k : Int) = ((k + 1 : Nat) : Int) := fun k hk => by
    unfold n22_2 nx22_2_3
    rw [wrapOf _ (by omega) (by omega)]
    rfl
  have key : ∀ (n k : Nat), l.length - k = n → k ≤ l.length → (∀ j, j < k → (at' l j).2 ≠ id) →
      ∃ r : Nat, Ends (g22_2 (tk, R l, id)) (n22_2 (tk, R l, id)) (k : Int) (r : Int) ∧ r ≤ l.length ∧ (∀ j, j < r → (at' l j).2 ≠ id) ∧ (r < l.length → (at' l r).2 = id) := by
    intro n
    induction n with
    | zero =>
      intro k hk hkl hh
      refine ⟨k, Ends.stop ?_, hkl, hh, fun h => by omega⟩
      unfold g22_2 go22_2
      dsimp only
      rw [R_len, decide_eq_false (by omega)]
      rfl
    | succ n ih =>
      intro k hk hkl hh
      have hlt : k < l.length := by omega
      by_cases e : (at' l k).2 = id
      · exact ⟨k, Ends.stop (by rw [go k hlt, e]; simp), hkl, hh, fun _ => e⟩
      · obtain ⟨r, hr, h1, h2, h3⟩ := ih (k + 1) (by omega) (by omega) (fun j hj => by
          by_cases ej : j = k
          · subst ej; exact e
          · exact hh j (by omega))
        exact ⟨r, Ends.step (by rw [go k hlt, beq_eq_false_iff_ne.2 e]; rfl) (by rw [nx k hlt]; exact hr), h1, h2, h3⟩
  obtain ⟨r, hr, h1, h2, h3⟩ := key _ 0 rfl (Nat.zero_le _) (fun j hj => by omega)
  have f := hr.fin
  have f2 : finL (g22_2 (tk, R l, id)) (n22_2 (tk, R l, id)) 0 = (r : Int) := f.2
  have f1 : stopsB (g22_2 (tk, R l, id)) (n22_2 (tk, R l, id)) 0 = true := f.1
  unfold vev22_0 vev22_1 rev22_0
  simp only [spI]
  rw [f2, f1]
  unfold y22_2 z22_2 xc22_2_0 xc22_2_1
  dsimp only
  by_cases hlt : r < l.length
  · have hp : placeI id l = some r := by
      cases hp : placeI id l with
      | none => exact absurd (h3 hlt) (placeI_none hp r hlt)
      | some i =>
        obtain ⟨p1, p2, p3⟩ := placeI_some hp
        have : i = r := by
          rcases Nat.lt_trichotomy i r with h | h | h
          · exact absurd p2 (h2 i h)
          · exact h
          · exact absurd (h3 hlt) (p3 r h)
        rw [this]
    rw [Int.toNat_natCast, R_id hlt, R_len, h3 hlt, hp, decide_eq_true (show (r : Int) < (l.length : Int) by omega), decide_eq_true (show (0 : Int) ≤ (r : Int) by omega), beq_self_eq_true]
    exact ⟨rfl, rfl⟩
  · have hp : placeI id l = none := by
      cases hp : placeI id l with
      | none => rfl
      | some i =>
        obtain ⟨p1, p2, p3⟩ := placeI_some hp
        exact absurd p2 (h2 i (by omega))
    rw [R_len, hp, decide_eq_false (show ¬ (r : Int) < (l.length : Int) by omega)]
    exact ⟨rfl, rfl⟩
theorem without23 (tk : Tk) {l : List It} {i : Nat} (hi : i < l.length) (hl : l.length ≤ 1000) : vev23_0 tk (R l) (i : Int) = R (l.eraseIdx i) ∧ vev23_1 tk (R l) (i : Int) = true := by
  have e0 : rev23_0 tk (R l) (i : Int) = ((i + 1 : Nat) : Int) := by unfold rev23_0; rw [wrapOf _ (by omega) (by omega)]; rfl
  have e1 : rev23_1 tk (R l) (i : Int) = R (l.drop (i + 1)) := by unfold rev23_1; rw [e0, Int.toNat_natCast]; unfold R; rw [List.map_drop]
  have e2 : List.take (i : Int).toNat (R l) = R (l.take i) := by rw [Int.toNat_natCast]; unfold R; rw [List.map_take]
  unfold vev23_0 vev23_1
  rw [e2, e1, e0, R_len, R_len, R_len, List.length_take, List.length_drop, ← R_app, ← List.eraseIdx_eq_take_drop_succ, bndT (by omega) (by omega) (by omega), bndT (by omega) (by omega) (by omega), decide_eq_true (show min i l.length * 16 ≤ 140737488355328 by omega), decide_eq_true (show min i l.length ≤ 9223372036854775807 by omega), decide_eq_true (show (min i l.length + (l.length - (i + 1))) * 16 ≤ 140737488355328 by omega), decide_eq_true (show min i l.length + (l.length - (i + 1)) ≤ 9223372036854775807 by omega)]
  exact ⟨rfl, rfl⟩
/-- Lists that are one are told to be. -/
theorem same9 (tk tk2 : Tk) {l : List It} (hl : l.length ≤ 1000) : vev9_0 tk (R l) tk2 (R l) = true ∧ vev9_1 tk (R l) tk2 (R l) = true := by
  have e : Ends (g9_4 (tk, R l, tk2, R l)) (n9_4 (tk, R l, tk2, R l)) (0 : Int) (l.length : Int) := by
    refine Ends.count (go := g9_4 (tk, R l, tk2, R l)) (next := n9_4 (tk, R l, tk2, R l)) l.length (fun i => (i : Int)) (fun i hi => ⟨?_, ?_⟩) ?_
    · unfold g9_4 go9_4
      dsimp only
      rw [R_len, decide_eq_true (show (i : Int) < (l.length : Int) by omega), decide_eq_true (show (0 : Int) ≤ (i : Int) by omega)]
      simp only [beq_self_eq_true, Bool.and_self, Bool.not_true, cond_true, cond_false]
    · unfold n9_4 nx9_4_4
      rw [wrapOf _ (by omega) (by omega)]
      rfl
    · unfold g9_4 go9_4
      dsimp only
      rw [R_len, decide_eq_false (by omega)]
      rfl
  have f := e.fin
  unfold vev9_0 vev9_1 rev9_0
  simp only [spI]
  rw [f.2, f.1]
  unfold y9_4 z9_4 xc9_4_0 xc9_4_1
  dsimp only
  rw [R_len, decide_eq_false (show ¬ (l.length : Int) < (l.length : Int) by omega), bne_self_eq_false]
  exact ⟨rfl, rfl⟩
end Go.Proofs.Gv
