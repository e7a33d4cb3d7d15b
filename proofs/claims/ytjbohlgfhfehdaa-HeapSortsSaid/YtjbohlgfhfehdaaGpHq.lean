/-
Heap's code: what is put in, taken out, changed, dropped, upon lists.
-/
import Derived.Test.YtjbohlgfhfehdaaGpHp
namespace Go.Proofs.Gv
open Go.Proofs
open List (Perm)
set_option linter.unusedVariables false
theorem of7 (tk : Tk) {l : List It} (hl : l.length ≤ 100000) : vev7_0 tk (R l) = R (ofH l) ∧ vev7_1 tk (R l) = true := by
  -- where it ends, from a number of items down
  have key : ∀ (n : Nat) (l : List It), l.length ≤ 100000 → n ≤ l.length / 2 → (∀ k, 0 < k → k < l.length → n ≤ (k - 1) / 2 → okAt l k) → Ends (g7_3 ()) (n7_3 ()) ((n : Int) - 1, R l) ((-1 : Int), R (heapify n l)) := by
    intro n
    induction n with
    | zero => intro l _ _ _; exact Ends.stop rfl
    | succ n ih =>
      intro l hl hn hok
      obtain ⟨r, j, he, hp, hh⟩ := down_ends n (l.length - n) l n rfl (by omega) (Nat.le_refl _) ⟨fun k hk hkl h1 h2 _ => hok k hk hkl (by omega), fun c _ _ _ h0 h1 => by omega⟩ (fun h0 h1 => by omega)
      obtain ⟨d0, d1⟩ := down25 (l := l) (i := n) (by omega) (by omega) he
      have e0 : (((n + 1 : Nat) : Int) - 1) = (n : Int) := by omega
      have go : g7_3 () (((n + 1 : Nat) : Int) - 1, R l) = true := by
        unfold g7_3 go7_3
        dsimp only
        rw [e0, d1, decide_eq_true (show (n : Int) ≥ 0 by omega)]
        rfl
      have nx : n7_3 () (((n + 1 : Nat) : Int) - 1, R l) = ((n : Int) - 1, R r) := by
        unfold n7_3 nx7_3_0
        dsimp only
        rw [e0, d0, wrapOf _ (by omega) (by omega)]
      refine Ends.step go ?_
      rw [nx]
      simp only [heapify, downR_of he]
      exact ih r (by rw [hp.length_eq]; exact hl) (by rw [hp.length_eq]; omega) hh
  have hs : IntKind.i64.wrap (IntKind.i64.wrap (((R l).length : Int).tdiv 2) - 1) = ((l.length / 2 : Nat) : Int) - 1 := by
    rw [R_len, Int.tdiv_eq_ediv_of_nonneg (by omega), wrapOf ((l.length : Int) / 2) (by omega) (by omega), wrapOf _ (by omega) (by omega)]
    omega
  have f := (key (l.length / 2) l hl (Nat.le_refl _) (fun k hk hkl h => by omega)).fin
  have hb : ((R l).length * 16).ble 140737488355328 = true := by rw [R_len]; exact Nat.ble_eq_true_of_le (by omega)
  unfold vev7_0 vev7_1 rev7_0
  simp only [spI]
  rw [hs, f.2, f.1, hb]
  exact ⟨rfl, rfl⟩
theorem own30 (tk : Tk) {l : List It} (hl : l.length ≤ 100000) : vev30_0 tk (R l) = R (ownH l) ∧ vev30_1 tk (R l) = true := by
  obtain ⟨c0, c1⟩ := chk13 tk (l := l) (by omega)
  obtain ⟨o0, o1⟩ := of7 tk hl
  have hb : ((R l).length * 16).ble 140737488355328 = true := by rw [R_len]; exact Nat.ble_eq_true_of_le (by omega)
  unfold vev30_0 vev30_1 ownH
  rw [c0, c1, o0, o1, hb]
  cases isH l <;> exact ⟨rfl, rfl⟩
theorem ownH_len (l : List It) : (ownH l).length = l.length := (ownH_spec l).1.length_eq
theorem push17 (tk : Tk) {l : List It} (hl : l.length ≤ 90000) (x : It) : vev17_0 tk (R l) x.1 x.2 = R (pushH l x) ∧ vev17_1 tk (R l) x.1 x.2 = true := by
  obtain ⟨o0, o1⟩ := own30 tk (l := l) (by omega)
  have ho := ownH_len l
  obtain ⟨r, j, he, hp, hh⟩ := pushH_ends l x
  have e1 : rev17_1 tk (R l) x.1 x.2 = R (ownH l ++ [x]) := by unfold rev17_1 rev17_0; rw [o0, R_app]; rfl
  have e2 : rev17_2 tk (R l) x.1 x.2 = ((ownH l).length : Int) := by
    unfold rev17_2
    rw [e1, R_len, List.length_append, List.length_singleton, wrapOf _ (by omega) (by omega)]
    omega
  obtain ⟨u0, u1⟩ := up31 (l := ownH l ++ [x]) (i := (ownH l).length) (by simp) (by rw [List.length_append, List.length_singleton]; omega) he
  unfold vev17_0 vev17_1
  rw [e1, e2, u0, u1, o0, o1, R_len, show (rev17_0 tk (R l) x.1 x.2).length = 1 from rfl, decide_eq_true (show ((ownH l).length + 1) * 16 ≤ 140737488355328 by omega), decide_eq_true (show (ownH l).length + 1 ≤ 9223372036854775807 by omega)]
  refine ⟨?_, rfl⟩
  unfold pushH
  rw [upR_of he]
theorem over_rI (x y : It) : over (fitRow [Kd.int IntKind.i64, Kd.int IntKind.i64] (rI x)) 0 (List.take 2 (List.drop 0 (fitRow [Kd.int IntKind.i64, Kd.int IntKind.i64] (rI y)))) = rI y := rfl
theorem move_eq (l : List It) (h : 0 < l.length) (i : Nat) (hi : i < l.length) : ∃ z : It, l.set i (at' l (l.length - 1)) = moveL l i ++ [z] := by
  refine ⟨at' (l.set i (at' l (l.length - 1))) (l.length - 1), ?_⟩
  unfold moveL
  have e : (l.set i (at' l (l.length - 1))).length = l.length := List.length_set
  refine List.ext_getElem (by rw [List.length_append, List.length_take, e, List.length_singleton]; omega) fun k hk hk' => ?_
  rw [e] at hk
  by_cases ek : k < l.length - 1
  · rw [List.getElem_append_left (by rw [List.length_take, e]; omega), List.getElem_take]
  · have : k = l.length - 1 := by omega
    subst this
    rw [List.getElem_append_right (by rw [List.length_take, e]; omega)]
    simp only [List.length_take, e, List.getElem_singleton]
    exact (at_lt (by rw [e]; omega)).symm
/-- What is cut out of a heap. -/
theorem cut32 {h : List It} {i : Nat} (hh : HeapL h) (hi : i < h.length) (hl : h.length ≤ 100000) : List.take (rev32_0 (R h) (i : Int)).toNat (List.drop 0 (vev32_0 (R h) (i : Int))) = R (cutH h i) ∧ vev32_1 (R h) (i : Int) = true := by
  have e0 : rev32_0 (R h) (i : Int) = ((h.length - 1 : Nat) : Int) := by
    unfold rev32_0
    rw [R_len, wrapOf _ (by omega) (by omega)]
    omega
  have hz : h.length - 1 < h.length := by omega
  have e1 : rev32_1 (R h) (i : Int) = R (h.set i (at' h (h.length - 1))) := by
    unfold rev32_1
    rw [e0, Int.toNat_natCast, Int.toNat_natCast, R_get hi, R_get hz, over_rI, R_set]
  obtain ⟨z, hm⟩ := move_eq h (by omega) i hi
  have hml := moveL_len h i
  have e2 : rev32_2 (R h) (i : Int) = (h.length : Int) := by unfold rev32_2; rw [e1, R_len, List.length_set]
  have e1' : rev32_1 (R h) (i : Int) = R (moveL h i) ++ R [z] := by rw [e1, hm, R_app]
  have el : (rev32_1 (R h) (i : Int)).length = h.length := by rw [e1, R_len, List.length_set]
  have c1 : decide ((0 : Int) ≤ ((h.length - 1 : Nat) : Int)) = true := decide_eq_true (by omega)
  have c2 : decide (((h.length - 1 : Nat) : Int) < (h.length : Int)) = true := decide_eq_true (by omega)
  have c3 : decide ((0 : Int) ≤ (i : Int)) = true := decide_eq_true (by omega)
  have c4 : decide ((i : Int) < (h.length : Int)) = true := decide_eq_true (by omega)
  have c5 : decide (((h.length - 1 : Nat) : Int) ≤ (h.length : Int)) = true := decide_eq_true (by omega)
  have c0 : decide ((0 : Int) ≤ 0) = true := rfl
  unfold vev32_0 vev32_1
  by_cases hq : i < h.length - 1
  · obtain ⟨r, j, he, r', j', he', hp, hH⟩ := fix_spec (l := moveL h i) (by rw [hml]; exact hq) (cut_inv hh (by omega))
    obtain ⟨d0, d1⟩ := down25s (l := moveL h i) (i := i) (R [z]) h.length (by rw [hml]; exact hq) (by omega) he
    have hrl : r.length = h.length - 1 := by
      have h1 := (down_up (moveL h i) i (by rw [hml]; exact hq) (cut_inv hh (by omega)))
      obtain ⟨r2, j2, he2, hp2, _⟩ := h1
      have := he.det he2
      injection this with e3 _
      rw [e3, hp2.length_eq, hml]
    obtain ⟨u0, u1⟩ := up31s (l := r) (i := i) (R [z]) h.length (by rw [hrl]; exact hq) (by omega) he'
    have e3 : rev32_3 (R h) (i : Int) = R r ++ R [z] := by
      unfold rev32_3
      rw [e1', e0, Int.toNat_natCast, List.length_append, R_len, R_len, hml, List.length_singleton, show h.length - 1 + 1 = h.length by omega]
      rw [hml] at d0
      exact d0
    rw [hml] at d1
    rw [hrl] at u0 u1
    have hr' : r'.length = h.length - 1 := by rw [hp.length_eq, hml]
    rw [e3, e1', e0, e2, R_len, Int.toNat_natCast, List.length_append, R_len, R_len, hml, List.length_singleton, show h.length - 1 + 1 = h.length by omega, u0, u1, d1, decide_eq_true (show (i : Int) < ((h.length - 1 : Nat) : Int) by omega), c1, c2, c3, c4, c5, c0, cond_true]
    refine ⟨?_, rfl⟩
    rw [← hr', RX_take]
    unfold cutH fixR
    rw [decide_eq_true hq, cond_true, downR_of he, upR_of he']
  · have ez : [AV.int IntKind.i64 (intOf (((R h).getD ((h.length - 1 : Nat) : Int).toNat []).getD 0 AV.junk)), AV.int IntKind.i64 (intOf (((R h).getD ((h.length - 1 : Nat) : Int).toNat []).getD (0 + 1) AV.junk))] = rI (at' h (h.length - 1)) := by
      rw [Int.toNat_natCast, R_get hz]
      rfl
    rw [e0, e2, R_len, ez, Int.toNat_natCast, Int.toNat_natCast, R_set, decide_eq_false (show ¬ (i : Int) < ((h.length - 1 : Nat) : Int) by omega), c1, c2, c3, c4, c5, c0, cond_false]
    refine ⟨?_, rfl⟩
    rw [hm, R_app]
    have := RX_take (moveL h i) (R [z])
    rw [hml] at this
    rw [this]
    unfold cutH
    rw [decide_eq_false hq, cond_false]
theorem place36 (tk : Tk) {l : List It} (hl : l.length ≤ 100000) (id : Int) : vev36_0 tk (R l) id = (match placeI id l with
    | some i => (i : Int)
    | none => -1) ∧ vev36_1 tk (R l) id = true := by
  have go : ∀ k : Nat, k < l.length → g36_2 (tk, R l, (l.length : Int), id) (k : Int) = !((at' l k).2 == id) := fun k hk => by
    unfold g36_2 go36_2 vev37_0
    dsimp only
    rw [Int.toNat_natCast, R_id hk, R_len, decide_eq_true (show (k : Int) < (l.length : Int) by omega), decide_eq_true (show (0 : Int) ≤ (k : Int) by omega)]
    cases (at' l k).2 == id <;> rfl
  have nx : ∀ k : Nat, k < l.length → n36_2 (tk, R l, (l.length : Int), id) (k : Int) = ((k + 1 : Nat) : Int) := fun k hk => by
    unfold n36_2 nx36_2_3
    rw [wrapOf _ (by omega) (by omega)]
    rfl
  have key : ∀ (n k : Nat), l.length - k = n → k ≤ l.length → (∀ j, j < k → (at' l j).2 ≠ id) →
      ∃ r : Nat, Ends (g36_2 (tk, R l, (l.length : Int), id)) (n36_2 (tk, R l, (l.length : Int), id)) (k : Int) (r : Int) ∧ r ≤ l.length ∧ (∀ j, j < r → (at' l j).2 ≠ id) ∧ (r < l.length → (at' l r).2 = id) := by
    intro n
    induction n with
    | zero =>
      intro k hk hkl hh
      refine ⟨k, Ends.stop ?_, hkl, hh, fun h => by omega⟩
      unfold g36_2 go36_2
      dsimp only
      rw [decide_eq_false (by omega)]
      rfl
    | succ n ih =>
      intro k hk hkl hh
      have hlt : k < l.length := by omega
      by_cases e : (at' l k).2 = id
      · exact ⟨k, Ends.stop (by rw [go k hlt, e]; simp), hkl, hh, fun _ => e⟩
      · obtain ⟨r, hr, h1, h2, h3⟩ := ih (k + 1) (by omega) (by omega) (fun j hj => by
          by_cases ej : j = k
          · subst ej; exact e
          · exact hh j (by omega))
        exact ⟨r, Ends.step (by rw [go k hlt, beq_eq_false_iff_ne.2 e]; rfl) (by rw [nx k hlt]; exact hr), h1, h2, h3⟩
  obtain ⟨r, hr, h1, h2, h3⟩ := key _ 0 rfl (Nat.zero_le _) (fun j hj => by omega)
  have f := hr.fin
  have f2 : finL (g36_2 (tk, R l, (l.length : Int), id)) (n36_2 (tk, R l, (l.length : Int), id)) 0 = (r : Int) := f.2
  have f1 : stopsB (g36_2 (tk, R l, (l.length : Int), id)) (n36_2 (tk, R l, (l.length : Int), id)) 0 = true := f.1
  unfold vev36_0 vev36_1 rev36_0
  simp only [spI]
  rw [R_len, f2, f1]
  unfold y36_2 z36_2 xc36_2_0 xc36_2_1 vev37_0
  dsimp only
  by_cases hlt : r < l.length
  · have hp : placeI id l = some r := by
      cases hp : placeI id l with
      | none => exact absurd (h3 hlt) (placeI_none hp r hlt)
      | some i =>
        obtain ⟨p1, p2, p3⟩ := placeI_some hp
        have : i = r := by
          rcases Nat.lt_trichotomy i r with h | h | h
          · exact absurd p2 (h2 i h)
          · exact h
          · exact absurd (h3 hlt) (p3 r h)
        rw [this]
    rw [Int.toNat_natCast, R_id hlt, R_len, h3 hlt, hp, decide_eq_true (show (r : Int) < (l.length : Int) by omega), decide_eq_true (show (0 : Int) ≤ (r : Int) by omega), beq_self_eq_true]
    exact ⟨rfl, rfl⟩
  · have hp : placeI id l = none := by
      cases hp : placeI id l with
      | none => rfl
      | some i =>
        obtain ⟨p1, p2, p3⟩ := placeI_some hp
        exact absurd p2 (h2 i (by omega))
    rw [hp, decide_eq_false (show ¬ (r : Int) < (l.length : Int) by omega)]
    exact ⟨rfl, rfl⟩
theorem pop18 (tk : Tk) {l : List It} (hl : l.length ≤ 100000) : vev18_3 tk (R l) = decide (0 < l.length) ∧ vev18_4 tk (R l) = true ∧ vev18_0 tk (R l) = R (bif decide (0 < l.length) then cutH (ownH l) 0 else []) ∧ (0 < l.length → vev18_1 tk (R l) = (at' (ownH l) 0).1 ∧ vev18_2 tk (R l) = (at' (ownH l) 0).2) := by
  obtain ⟨o0, o1⟩ := own30 tk hl
  have ho := ownH_len l
  unfold vev18_0 vev18_1 vev18_2 vev18_3 vev18_4 rev18_0
  rw [R_len]
  by_cases h0 : 0 < l.length
  · have hne : ((l.length : Int) == 0) = false := beq_eq_false_iff_ne.2 (by omega)
    have hi : 0 < (ownH l).length := by omega
    obtain ⟨c0, c1⟩ := cut32 (ownH_spec l).2 hi (by omega)
    rw [hne, decide_eq_true h0, o0, o1, R_len, decide_eq_true (show (0 : Int) < ((ownH l).length : Int) by omega)]
    have c0' : List.take (rev32_0 (R (ownH l)) 0).toNat (List.drop 0 (vev32_0 (R (ownH l)) 0)) = R (cutH (ownH l) 0) := c0
    have c1' : vev32_1 (R (ownH l)) 0 = true := c1
    rw [c1']
    refine ⟨rfl, rfl, c0', fun _ => ?_⟩
    rw [show Int.toNat 0 = 0 from rfl, R_key hi, R_id hi]
    exact ⟨rfl, rfl⟩
  · have hz : l.length = 0 := by omega
    rw [hz]
    exact ⟨rfl, rfl, rfl, fun h => by omega⟩
theorem fix19 (tk : Tk) {l : List It} (hl : l.length ≤ 100000) (id k : Int) : vev19_1 tk (R l) id k = (placeI id (ownH l)).isSome ∧ vev19_2 tk (R l) id k = true ∧ vev19_0 tk (R l) id k = R (match placeI id (ownH l) with
    | some i => setH (ownH l) i (k, id)
    | none => ownH l) := by
  obtain ⟨o0, o1⟩ := own30 tk hl
  have ho := ownH_len l
  obtain ⟨p0, p1⟩ := place36 .lent (l := ownH l) (by omega) id
  unfold vev19_0 vev19_1 vev19_2 vev33_0
  rw [o0, o1, p1]
  cases hp : placeI id (ownH l) with
  | none =>
    rw [hp] at p0
    rw [p0]
    exact ⟨rfl, rfl, rfl⟩
  | some i =>
    rw [hp] at p0
    have p0 : vev36_0 .lent (R (ownH l)) id = (i : Int) := p0
    obtain ⟨q1, q2, q3⟩ := placeI_some hp
    obtain ⟨r, j, he, r', j', he', hpm, hH⟩ := fix_spec (l := (ownH l).set i (k, id)) (i := i) (by rw [List.length_set]; exact q1) (set_inv (k, id) (ownH_spec l).2 q1)
    have e1 : rev19_1 tk (R l) id k = R ((ownH l).set i (k, id)) := by
      unfold rev19_1
      rw [o0, p0, Int.toNat_natCast, R_id q1, q2, ← R_set]
      rfl
    obtain ⟨d0, d1⟩ := down25 (l := (ownH l).set i (k, id)) (i := i) (by rw [List.length_set]; exact q1) (by rw [List.length_set]; omega) he
    have hrl : r.length = (ownH l).length := by
      obtain ⟨r2, j2, he2, hp2, _⟩ := down_up ((ownH l).set i (k, id)) i (by rw [List.length_set]; exact q1) (set_inv (k, id) (ownH_spec l).2 q1)
      have := he.det he2
      injection this with e3 _
      rw [e3, hp2.length_eq, List.length_set]
    have e2 : rev19_2 tk (R l) id k = R r := by unfold rev19_2; rw [e1, o0, p0, d0]
    obtain ⟨u0, u1⟩ := up31 (l := r) (i := i) (by omega) (by omega) he'
    have e0 : rev19_0 tk (R l) id k = ((ownH l).length : Int) := by unfold rev19_0; rw [o0, R_len]
    rw [p0, e0, e1, e2, d1, u0, u1, decide_eq_false (show ¬ (i : Int) < 0 by omega), decide_eq_true (show (0 : Int) ≤ (i : Int) by omega), decide_eq_true (show (i : Int) < ((ownH l).length : Int) by omega)]
    refine ⟨rfl, rfl, ?_⟩
    have e5 : setH (ownH l) i (k, id) = r' := by
      unfold setH fixR
      rw [downR_of he, upR_of he']
    show R r' = R (setH (ownH l) i (k, id))
    rw [e5]
theorem drop20 (tk : Tk) {l : List It} (hl : l.length ≤ 100000) (id : Int) : vev20_1 tk (R l) id = (placeI id (ownH l)).isSome ∧ vev20_2 tk (R l) id = true ∧ vev20_0 tk (R l) id = R (match placeI id (ownH l) with
    | some i => cutH (ownH l) i
    | none => ownH l) := by
  obtain ⟨o0, o1⟩ := own30 tk hl
  have ho := ownH_len l
  obtain ⟨p0, p1⟩ := place36 .lent (l := ownH l) (by omega) id
  unfold vev20_0 vev20_1 vev20_2 vev33_0
  rw [o0, o1, p1]
  cases hp : placeI id (ownH l) with
  | none =>
    rw [hp] at p0
    rw [p0]
    exact ⟨rfl, rfl, rfl⟩
  | some i =>
    rw [hp] at p0
    have p0 : vev36_0 .lent (R (ownH l)) id = (i : Int) := p0
    obtain ⟨q1, q2, q3⟩ := placeI_some hp
    obtain ⟨c0, c1⟩ := cut32 (ownH_spec l).2 q1 (by omega)
    rw [p0, c1, decide_eq_false (show ¬ (i : Int) < 0 by omega)]
    exact ⟨rfl, rfl, c0⟩
end Go.Proofs.Gv
