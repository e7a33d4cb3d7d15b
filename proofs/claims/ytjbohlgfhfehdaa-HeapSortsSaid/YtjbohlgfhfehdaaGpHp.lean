/-
Heap's code: how an item rises and sinks.
-/
import Derived.Test.YtjbohlgfhfehdaaGaHp3
import Derived.Test.YtjbohlgfhfehdaaGpHC
import Derived.Test.YtjbohlgfhfehdaaGwG
namespace Go.Proofs.Gv
open Go.Proofs
open List (Perm)
set_option linter.unusedVariables false
theorem wrapOf (x : Int) (h0 : -9223372036854775808 ≤ x) (h1 : x ≤ 9223372036854775807) : IntKind.i64.wrap x = x := by
  rw [IntKind.wrap_i64]; omega
/-- What ends upon lists ends upon rows. -/
theorem Ends.map {α β : Type} {go : α → Bool} {next : α → α} {goL : β → Bool} {nextL : β → β} (enc : β → α) (Inv : β → Prop) (hgo : ∀ b, Inv b → go (enc b) = goL b) (hnx : ∀ b, Inv b → goL b = true → next (enc b) = enc (nextL b) ∧ Inv (nextL b)) {b r : β} (hb : Inv b) (h : Ends goL nextL b r) : Ends go next (enc b) (enc r) ∧ Inv r := by
  obtain ⟨n, hn, hr⟩ := h
  induction n generalizing b with
  | zero =>
    simp only [iterL] at hn
    subst hn
    exact ⟨Ends.stop (by rw [hgo b hb, hr]), hb⟩
  | succ n ih =>
    cases hg : goL b with
    | false =>
      simp only [iterL, hg, cond_false] at hn
      subst hn
      exact ⟨Ends.stop (by rw [hgo b hb, hr]), hb⟩
    | true =>
      simp only [iterL, hg, cond_true] at hn
      obtain ⟨e1, e2⟩ := hnx b hb hg
      obtain ⟨h1, h2⟩ := ih e2 hn
      exact ⟨Ends.step (by rw [hgo b hb, hg]) (by rw [e1]; exact h1), h2⟩
/-- An item's row. -/
def rI (x : It) : List AV := [AV.int IntKind.i64 x.1, AV.int IntKind.i64 x.2]
def R (l : List It) : List (List AV) := l.map rI
theorem R_len (l : List It) : (R l).length = l.length := List.length_map _
theorem R_get {l : List It} {i : Nat} (h : i < l.length) : (R l).getD i [] = rI (at' l i) := by
  rw [at_lt h]
  simp [R, List.getD, h]
theorem R_key {l : List It} {i : Nat} (h : i < l.length) : intOf (((R l).getD i []).getD 0 AV.junk) = (at' l i).1 := by rw [R_get h]; rfl
theorem R_id {l : List It} {i : Nat} (h : i < l.length) : intOf (((R l).getD i []).getD (0 + 1) AV.junk) = (at' l i).2 := by rw [R_get h]; rfl
theorem R_set {l : List It} {i : Nat} (x : It) : (R l).set i (rI x) = R (l.set i x) := by unfold R; rw [List.map_set]
theorem R_app (l m : List It) : R (l ++ m) = R l ++ R m := List.map_append
theorem RX_get {l : List It} {X : List (List AV)} {i : Nat} (h : i < l.length) : (R l ++ X).getD i [] = rI (at' l i) := by
  rw [← R_get h]
  simp [List.getD, List.getElem?_append, R_len, h]
theorem RX_take (l : List It) (X : List (List AV)) : List.take l.length (List.drop 0 (R l ++ X)) = R l := by
  rw [List.drop_zero, ← R_len l, List.take_left]
theorem RX_set {l : List It} {X : List (List AV)} {i : Nat} (x : It) (h : i < l.length) : (R l ++ X).set i (rI x) = R (l.set i x) ++ X := by
  rw [List.set_append_left _ _ (by rw [R_len]; exact h), R_set]
theorem v15 (a b c d : Int) : vev15_0 a b c d = ltI (a, b) (c, d) := by
  unfold vev15_0 ltI
  cases decide (a < c) <;> cases (a == c) <;> cases decide (b < d) <;> rfl
theorem v29 (tk : Tk) {l : List It} {i k : Nat} (hi : i < l.length) (hk : k < l.length) : vev29_0 tk (R l) (i : Int) (k : Int) = ltI (at' l i) (at' l k) ∧ vev29_1 tk (R l) (i : Int) (k : Int) = true := by
  unfold vev29_0 vev29_1
  rw [Int.toNat_natCast, Int.toNat_natCast, R_key hi, R_id hi, R_key hk, R_id hk, v15, R_len, decide_eq_true (show (0 : Int) ≤ (i : Int) by omega), decide_eq_true (show (i : Int) < (l.length : Int) by omega), decide_eq_true (show (0 : Int) ≤ (k : Int) by omega), decide_eq_true (show (k : Int) < (l.length : Int) by omega)]
  exact ⟨rfl, rfl⟩
theorem half {i : Nat} (h : 0 < i) (hi : i ≤ 1000000) : IntKind.i64.wrap ((IntKind.i64.wrap ((i : Int) - 1)).tdiv 2) = (((i - 1) / 2 : Nat) : Int) := by
  rw [wrapOf ((i : Int) - 1) (by omega) (by omega), Int.tdiv_eq_ediv_of_nonneg (by omega), wrapOf _ (by omega) (by omega)]
  omega
/-! An item rises. -/
theorem rn31 {l : List It} {i : Nat} (h : 0 < i) (hi : i ≤ 1000000) (b : List (List AV)) : rn31_0_0 (i : Int) b = (((i - 1) / 2 : Nat) : Int) := half h hi
theorem sim31 (b : List It × Nat) (hb : b.2 < b.1.length ∧ b.1.length ≤ 1000000) : g31_0 () ((b.2 : Int), R b.1) = goU b := by
  obtain ⟨l, i⟩ := b
  obtain ⟨hi, hl⟩ := hb
  simp only at hi hl ⊢
  unfold g31_0 go31_0 goU
  dsimp only
  by_cases h0 : 0 < i
  · have e := rn31 (l := l) h0 (by omega) (R l)
    have hp : (i - 1) / 2 < l.length := by omega
    obtain ⟨v0, v1⟩ := v29 .lent hi hp
    have eL : rn31_0_1 (i : Int) (R l) = (l.length : Int) := by unfold rn31_0_1; rw [List.length_set, R_len]
    rw [e, eL, v0, v1, R_len, decide_eq_true (show (i : Int) > 0 by omega), decide_eq_true h0, decide_eq_true (show (0 : Int) ≤ (((i - 1) / 2 : Nat) : Int) by omega), decide_eq_true (show (((i - 1) / 2 : Nat) : Int) < (l.length : Int) by omega), decide_eq_true (show (0 : Int) ≤ (i : Int) by omega), decide_eq_true (show (i : Int) < (l.length : Int) by omega)]
    cases ltI (at' l i) (at' l ((i - 1) / 2)) <;> rfl
  · have : i = 0 := by omega
    subst this
    rfl
theorem sim31n (b : List It × Nat) (hb : b.2 < b.1.length ∧ b.1.length ≤ 1000000) (hg : goU b = true) : n31_0 () ((b.2 : Int), R b.1) = (((nxU b).2 : Int), R (nxU b).1) ∧ ((nxU b).2 < (nxU b).1.length ∧ (nxU b).1.length ≤ 1000000) := by
  obtain ⟨l, i⟩ := b
  obtain ⟨hi, hl⟩ := hb
  simp only at hi hl ⊢
  have h0 : 0 < i := by
    unfold goU at hg
    simp only [Bool.and_eq_true, decide_eq_true_eq] at hg
    exact hg.1
  have e := rn31 (l := l) h0 (by omega) (R l)
  have hp : (i - 1) / 2 < l.length := by omega
  refine ⟨?_, ?_⟩
  · unfold n31_0 nx31_0_1 nxU
    dsimp only
    rw [e, Int.toNat_natCast, Int.toNat_natCast, R_key hp, R_id hp, R_key hi, R_id hi]
    have e1 : [AV.int IntKind.i64 (at' l ((i - 1) / 2)).fst, AV.int IntKind.i64 (at' l ((i - 1) / 2)).snd] = rI (at' l ((i - 1) / 2)) := rfl
    have e2 : [AV.int IntKind.i64 (at' l i).fst, AV.int IntKind.i64 (at' l i).snd] = rI (at' l i) := rfl
    rw [e1, e2, R_set, R_set]
    rfl
  · unfold nxU
    simp only [swapL_len]
    omega
theorem up31 {l : List It} {i : Nat} (hi : i < l.length) (hl : l.length ≤ 1000000) {r : List It} {j : Nat} (h : Ends goU nxU (l, i) (r, j)) : vev31_0 (R l) (i : Int) = R r ∧ vev31_1 (R l) (i : Int) = true := by
  obtain ⟨h1, h2⟩ := Ends.map (fun b : List It × Nat => ((b.2 : Int), R b.1)) (fun b => b.2 < b.1.length ∧ b.1.length ≤ 1000000) sim31 sim31n (b := (l, i)) ⟨hi, hl⟩ h
  have f := h1.fin
  unfold vev31_0 vev31_1 rev31_0
  simp only [spI]
  rw [f.2, f.1]
  refine ⟨rfl, ?_⟩
  have hs : goU (r, j) = false := by obtain ⟨n, _, hr⟩ := h; exact hr
  unfold y31_0 z31_0 xc31_0_0
  dsimp only
  simp only at h2
  by_cases h0 : 0 < j
  · have e := rn31 (l := r) h0 (by omega) (R r)
    have hp : (j - 1) / 2 < r.length := by omega
    obtain ⟨v0, v1⟩ := v29 .lent h2.1 hp
    unfold goU at hs
    simp only [decide_eq_true h0, Bool.true_and] at hs
    rw [e, v0, v1, hs, decide_eq_true (show (j : Int) > 0 by omega)]
    rfl
  · have : j = 0 := by omega
    subst this
    rfl
/-! .. in a part of a row. -/
theorem sim31s (X : List (List AV)) (cp n : Nat) (b : List It × Nat) (hb : b.2 < b.1.length ∧ b.1.length ≤ 1000000 ∧ b.1.length = n) : g31s_0 (0, n, cp) ((b.2 : Int), R b.1 ++ X) = goU b := by
  obtain ⟨l, i⟩ := b
  obtain ⟨hi, hl, hn⟩ := hb
  simp only at hi hl hn ⊢
  subst hn
  unfold g31s_0 go31s_0 rn31s_0_0 goU
  dsimp only
  rw [RX_take]
  by_cases h0 : 0 < i
  · have e : rn31s_0_1 0 l.length cp (i : Int) (R l ++ X) = (((i - 1) / 2 : Nat) : Int) := half h0 (by omega)
    have hp : (i - 1) / 2 < l.length := by omega
    obtain ⟨v0, v1⟩ := v29 .lent hi hp
    rw [e, v0, v1, decide_eq_true (show (i : Int) > 0 by omega), decide_eq_true h0, decide_eq_true (show (0 : Int) ≤ (((i - 1) / 2 : Nat) : Int) by omega), decide_eq_true (show (((i - 1) / 2 : Nat) : Int) < (l.length : Int) by omega), decide_eq_true (show (0 : Int) ≤ (i : Int) by omega), decide_eq_true (show (i : Int) < (l.length : Int) by omega)]
    cases ltI (at' l i) (at' l ((i - 1) / 2)) <;> rfl
  · have : i = 0 := by omega
    subst this
    rfl
theorem sim31sn (X : List (List AV)) (cp n : Nat) (b : List It × Nat) (hb : b.2 < b.1.length ∧ b.1.length ≤ 1000000 ∧ b.1.length = n) (hg : goU b = true) : n31s_0 (0, n, cp) ((b.2 : Int), R b.1 ++ X) = (((nxU b).2 : Int), R (nxU b).1 ++ X) ∧ ((nxU b).2 < (nxU b).1.length ∧ (nxU b).1.length ≤ 1000000 ∧ (nxU b).1.length = n) := by
  obtain ⟨l, i⟩ := b
  obtain ⟨hi, hl, hn⟩ := hb
  simp only at hi hl hn ⊢
  subst hn
  have h0 : 0 < i := by
    unfold goU at hg
    simp only [Bool.and_eq_true, decide_eq_true_eq] at hg
    exact hg.1
  have e : rn31s_0_1 0 l.length cp (i : Int) (R l ++ X) = (((i - 1) / 2 : Nat) : Int) := half h0 (by omega)
  have hp : (i - 1) / 2 < l.length := by omega
  refine ⟨?_, ?_⟩
  · unfold n31s_0 nx31s_0_4 nxU
    dsimp only
    rw [e, Int.toNat_natCast, Int.toNat_natCast, Nat.add_zero, Nat.add_zero, RX_get hp, RX_get hi]
    have e1 : [AV.int IntKind.i64 (intOf ((rI (at' l ((i - 1) / 2))).getD 0 AV.junk)), AV.int IntKind.i64 (intOf ((rI (at' l ((i - 1) / 2))).getD (0 + 1) AV.junk))] = rI (at' l ((i - 1) / 2)) := rfl
    have e2 : [AV.int IntKind.i64 (intOf ((rI (at' l i)).getD 0 AV.junk)), AV.int IntKind.i64 (intOf ((rI (at' l i)).getD (0 + 1) AV.junk))] = rI (at' l i) := rfl
    rw [e1, e2, RX_set _ hi, RX_set _ (by rw [List.length_set]; exact hp)]
    rfl
  · unfold nxU
    refine ⟨?_, ?_, ?_⟩ <;> simp only [swapL_len] <;> omega
theorem up31s {l : List It} {i : Nat} (X : List (List AV)) (cp : Nat) (hi : i < l.length) (hl : l.length ≤ 1000000) {r : List It} {j : Nat} (h : Ends goU nxU (l, i) (r, j)) : vev31s_0 (R l ++ X) l.length cp (i : Int) = R r ++ X ∧ vev31s_1 (R l ++ X) l.length cp (i : Int) = true := by
  obtain ⟨h1, h2⟩ := Ends.map (fun b : List It × Nat => ((b.2 : Int), R b.1 ++ X)) (fun b => b.2 < b.1.length ∧ b.1.length ≤ 1000000 ∧ b.1.length = l.length) (sim31s X cp l.length) (sim31sn X cp l.length) (b := (l, i)) ⟨hi, hl, rfl⟩ h
  have f := h1.fin
  unfold vev31s_0 vev31s_1 rev31s_0
  simp only [spI]
  rw [f.2, f.1]
  refine ⟨rfl, ?_⟩
  have hs : goU (r, j) = false := by obtain ⟨n, _, hr⟩ := h; exact hr
  simp only at h2
  unfold y31s_0 z31s_0 xc31s_0_0 rn31s_0_0
  dsimp only
  rw [← h2.2.2, RX_take]
  by_cases h0 : 0 < j
  · have e : rn31s_0_1 0 r.length cp (j : Int) (R r ++ X) = (((j - 1) / 2 : Nat) : Int) := half h0 (by omega)
    have hp : (j - 1) / 2 < r.length := by omega
    obtain ⟨v0, v1⟩ := v29 .lent h2.1 hp
    unfold goU at hs
    simp only [decide_eq_true h0, Bool.true_and] at hs
    rw [e, v0, v1, hs, decide_eq_true (show (j : Int) > 0 by omega)]
    rfl
  · have : j = 0 := by omega
    subst this
    rfl
/-! An item sinks: the least of it and of those below it. -/
theorem least25 {l : List It} {i : Nat} (hi : i < l.length) (hl : l.length ≤ 1000000) : ∃ k : Int, Ends (g25_2 ((i : Int), R l)) (n25_2 ((i : Int), R l)) ((i : Int), IntKind.i64.wrap (IntKind.i64.wrap (2 * (i : Int)) + 1)) ((leastD l i : Int), k) ∧
    (bif decide (k ≤ 2 * (i : Int) + 2) then decide (k < (l.length : Int)) else false) = false := by
  have e1 : IntKind.i64.wrap (IntKind.i64.wrap (2 * (i : Int)) + 1) = ((2 * i + 1 : Nat) : Int) := by rw [wrapOf (2 * (i : Int)) (by omega) (by omega), wrapOf _ (by omega) (by omega)]; omega
  have eB : ∀ t4 t5, rn25_2_0 (i : Int) t4 t5 (R l) = 2 * (i : Int) + 2 := fun t4 t5 => by unfold rn25_2_0; rw [wrapOf (2 * (i : Int)) (by omega) (by omega), wrapOf _ (by omega) (by omega)]
  have go1 : ∀ (m k : Nat), m < l.length → (k ≤ 2 * i + 2 ∧ k < l.length) → g25_2 ((i : Int), R l) ((m : Int), (k : Int)) = true := fun m k hm hk => by
    obtain ⟨v0, v1⟩ := v29 .lent hk.2 hm
    unfold g25_2 go25_2
    dsimp only
    rw [eB, R_len, v1, decide_eq_true (show (k : Int) ≤ 2 * (i : Int) + 2 by omega), decide_eq_true (show (k : Int) < (l.length : Int) by omega)]
    rfl
  have go0 : ∀ (m k : Nat), ¬ (k ≤ 2 * i + 2 ∧ k < l.length) → (bif decide ((k : Int) ≤ 2 * (i : Int) + 2) then decide ((k : Int) < (l.length : Int)) else false) = false ∧ g25_2 ((i : Int), R l) ((m : Int), (k : Int)) = false := fun m k hk => by
    have hc : (bif decide ((k : Int) ≤ 2 * (i : Int) + 2) then decide ((k : Int) < (l.length : Int)) else false) = false := by
      by_cases h : k ≤ 2 * i + 2
      · rw [decide_eq_false (show ¬ (k : Int) < (l.length : Int) by omega)]
        cases decide ((k : Int) ≤ 2 * (i : Int) + 2) <;> rfl
      · rw [decide_eq_false (show ¬ (k : Int) ≤ 2 * (i : Int) + 2 by omega)]
        rfl
    refine ⟨hc, ?_⟩
    unfold g25_2 go25_2
    dsimp only
    rw [eB, R_len, hc]
    rfl
  have nx : ∀ (m k : Nat), m < l.length → k < l.length → n25_2 ((i : Int), R l) ((m : Int), (k : Int)) = (((if ltI (at' l k) (at' l m) = true then k else m : Nat) : Int), ((k + 1 : Nat) : Int)) := fun m k hm hk => by
    obtain ⟨v0, v1⟩ := v29 .lent hk hm
    unfold n25_2 nx25_2_1 nx25_2_2
    dsimp only
    rw [v0, wrapOf _ (by omega) (by omega)]
    cases ltI (at' l k) (at' l m) <;> rfl
  rw [e1]
  unfold leastD
  by_cases h1 : 2 * i + 1 < l.length
  · by_cases h2 : 2 * i + 2 < l.length
    · refine ⟨((2 * i + 3 : Nat) : Int), Ends.step (go1 _ _ hi ⟨by omega, h1⟩) ?_, (go0 0 _ (by omega)).1⟩
      rw [nx i (2 * i + 1) hi h1]
      have hm : (if ltI (at' l (2 * i + 1)) (at' l i) = true then 2 * i + 1 else i) < l.length := by split <;> omega
      refine Ends.step (go1 _ _ hm ⟨by omega, h2⟩) ?_
      rw [nx _ (2 * i + 2) hm h2]
      have e : (let m := if 2 * i + 1 < l.length ∧ ltI (at' l (2 * i + 1)) (at' l i) = true then 2 * i + 1 else i; if 2 * i + 2 < l.length ∧ ltI (at' l (2 * i + 2)) (at' l m) = true then 2 * i + 2 else m) = (if ltI (at' l (2 * i + 2)) (at' l (if ltI (at' l (2 * i + 1)) (at' l i) = true then 2 * i + 1 else i)) = true then 2 * i + 2 else (if ltI (at' l (2 * i + 1)) (at' l i) = true then 2 * i + 1 else i)) := by simp only [h1, h2, true_and]
      rw [e]
      exact Ends.stop (go0 _ _ (by omega)).2
    · refine ⟨((2 * i + 2 : Nat) : Int), Ends.step (go1 _ _ hi ⟨by omega, h1⟩) ?_, (go0 0 _ (by omega)).1⟩
      rw [nx i (2 * i + 1) hi h1]
      have e : (let m := if 2 * i + 1 < l.length ∧ ltI (at' l (2 * i + 1)) (at' l i) = true then 2 * i + 1 else i; if 2 * i + 2 < l.length ∧ ltI (at' l (2 * i + 2)) (at' l m) = true then 2 * i + 2 else m) = (if ltI (at' l (2 * i + 1)) (at' l i) = true then 2 * i + 1 else i) := by simp only [h1, h2, true_and, false_and, if_false]
      rw [e]
      exact Ends.stop (go0 _ _ (by omega)).2
  · have e : (let m := if 2 * i + 1 < l.length ∧ ltI (at' l (2 * i + 1)) (at' l i) = true then 2 * i + 1 else i; if 2 * i + 2 < l.length ∧ ltI (at' l (2 * i + 2)) (at' l m) = true then 2 * i + 2 else m) = i := by simp only [h1, show ¬ 2 * i + 2 < l.length by omega, false_and, if_false]
    rw [e]
    exact ⟨((2 * i + 1 : Nat) : Int), Ends.stop (go0 _ _ (by omega)).2, (go0 0 _ (by omega)).1⟩
theorem lst25 {l : List It} {i : Nat} (hi : i < l.length) (hl : l.length ≤ 1000000) : rn25_0_1 (i : Int) (R l) = (leastD l i : Int) ∧ (spI g25_2 n25_2 y25_2 z25_2 d25_2 (((i : Int), R l), (i : Int), IntKind.i64.wrap (IntKind.i64.wrap (2 * (i : Int)) + 1))).fst = true := by
  obtain ⟨k, he, hk⟩ := least25 hi hl
  have f := he.fin
  refine ⟨by unfold rn25_0_1 rn25_0_0; rw [f.2], ?_⟩
  simp only [spI]
  rw [f.2, f.1]
  have eB : rn25_2_0 (i : Int) (leastD l i : Int) k (R l) = 2 * (i : Int) + 2 := by unfold rn25_2_0; rw [wrapOf (2 * (i : Int)) (by omega) (by omega), wrapOf _ (by omega) (by omega)]
  unfold y25_2 z25_2 xc25_2_0
  dsimp only
  rw [eB, R_len, hk]
  rfl
theorem leastD_lt {l : List It} {i : Nat} (hi : i < l.length) : leastD l i < l.length := by
  rcases leastD_cases l i with ⟨h, _⟩ | ⟨_, h, _⟩
  · omega
  · exact h
theorem sim25 (b : List It × Nat) (hb : b.2 < b.1.length ∧ b.1.length ≤ 1000000) : g25_0 () ((b.2 : Int), R b.1) = goD b := by
  obtain ⟨l, i⟩ := b
  obtain ⟨hi, hl⟩ := hb
  simp only at hi hl ⊢
  obtain ⟨h1, h2⟩ := lst25 hi hl
  have hm := leastD_lt hi
  have eL : rn25_0_2 (i : Int) (R l) = (l.length : Int) := by unfold rn25_0_2; rw [List.length_set, R_len]
  have eb : ((leastD l i : Int) != (i : Int)) = !(leastD l i == i) := by
    by_cases e : leastD l i = i
    · rw [e]; simp
    · have h1 : ((leastD l i : Int) != (i : Int)) = true := bne_iff_ne.2 (by omega)
      have h2 : (leastD l i == i) = false := beq_eq_false_iff_ne.2 e
      rw [h1, h2]; rfl
  unfold g25_0 go25_0 goD
  dsimp only
  rw [h1, h2, eL, eb, R_len, decide_eq_true (show (0 : Int) ≤ (leastD l i : Int) by omega), decide_eq_true (show (leastD l i : Int) < (l.length : Int) by omega), decide_eq_true (show (0 : Int) ≤ (i : Int) by omega), decide_eq_true (show (i : Int) < (l.length : Int) by omega)]
  cases leastD l i == i <;> rfl
theorem sim25n (b : List It × Nat) (hb : b.2 < b.1.length ∧ b.1.length ≤ 1000000) (hg : goD b = true) : n25_0 () ((b.2 : Int), R b.1) = (((nxD b).2 : Int), R (nxD b).1) ∧ ((nxD b).2 < (nxD b).1.length ∧ (nxD b).1.length ≤ 1000000) := by
  obtain ⟨l, i⟩ := b
  obtain ⟨hi, hl⟩ := hb
  simp only at hi hl ⊢
  obtain ⟨h1, h2⟩ := lst25 hi hl
  have hm := leastD_lt hi
  refine ⟨?_, ?_⟩
  · unfold n25_0 nx25_0_1 nxD
    dsimp only
    rw [h1, Int.toNat_natCast, Int.toNat_natCast, R_key hm, R_id hm, R_key hi, R_id hi]
    have e1 : [AV.int IntKind.i64 (at' l (leastD l i)).fst, AV.int IntKind.i64 (at' l (leastD l i)).snd] = rI (at' l (leastD l i)) := rfl
    have e2 : [AV.int IntKind.i64 (at' l i).fst, AV.int IntKind.i64 (at' l i).snd] = rI (at' l i) := rfl
    rw [e1, e2, R_set, R_set]
    rfl
  · unfold nxD
    refine ⟨?_, ?_⟩ <;> simp only [swapL_len] <;> omega
theorem down25 {l : List It} {i : Nat} (hi : i < l.length) (hl : l.length ≤ 1000000) {r : List It} {j : Nat} (h : Ends goD nxD (l, i) (r, j)) : vev25_0 (R l) (i : Int) = R r ∧ vev25_1 (R l) (i : Int) = true := by
  obtain ⟨h1, h2⟩ := Ends.map (fun b : List It × Nat => ((b.2 : Int), R b.1)) (fun b => b.2 < b.1.length ∧ b.1.length ≤ 1000000) sim25 sim25n (b := (l, i)) ⟨hi, hl⟩ h
  have f := h1.fin
  unfold vev25_0 vev25_1 rev25_0
  simp only [spI]
  rw [f.2, f.1]
  refine ⟨rfl, ?_⟩
  have hs : goD (r, j) = false := by obtain ⟨n, _, hr⟩ := h; exact hr
  simp only at h2
  obtain ⟨q1, q2⟩ := lst25 h2.1 h2.2
  have hlj : leastD r j = j := by
    unfold goD at hs
    simpa using hs
  unfold y25_0 z25_0 xc25_0_0
  dsimp only
  rw [q1, q2, hlj]
  simp
/-! .. in a part of a row. -/
section
variable {l : List It} (X : List (List AV)) (cp : Nat)
theorem g25s (t1 : Int) : g25s_2 (0, l.length, cp, t1, R l ++ X) = g25_2 (t1, R l) := by
  funext s
  unfold g25s_2 go25s_2 rn25s_2_1 g25_2 go25_2
  dsimp only
  rw [RX_take, R_len]
  rfl
theorem n25s (t1 : Int) : n25s_2 (0, l.length, cp, t1, R l ++ X) = n25_2 (t1, R l) := by
  funext s
  unfold n25s_2 nx25s_2_4 rn25s_2_1 n25_2 nx25_2_1
  dsimp only
  rw [RX_take]
  rfl
theorem lst25s {i : Nat} (hi : i < l.length) (hl : l.length ≤ 1000000) : rn25s_0_1 0 l.length cp (i : Int) (R l ++ X) = (leastD l i : Int) ∧ (spI g25s_2 n25s_2 y25s_2 z25s_2 d25s_2 ((0, l.length, cp, (i : Int), R l ++ X), (i : Int), IntKind.i64.wrap (IntKind.i64.wrap (2 * (i : Int)) + 1))).fst = true := by
  obtain ⟨k, he, hk⟩ := least25 hi hl
  rw [← g25s X cp, ← n25s X cp] at he
  have f := he.fin
  refine ⟨by unfold rn25s_0_1 rn25s_0_0; rw [f.2], ?_⟩
  simp only [spI]
  rw [f.2, f.1]
  have eB : rn25s_2_0 0 l.length cp (i : Int) (leastD l i : Int) k (R l ++ X) = 2 * (i : Int) + 2 := by unfold rn25s_2_0; rw [wrapOf (2 * (i : Int)) (by omega) (by omega), wrapOf _ (by omega) (by omega)]
  unfold y25s_2 z25s_2 xc25s_2_0
  dsimp only
  rw [eB, hk]
  rfl
end
theorem sim25s (X : List (List AV)) (cp n : Nat) (b : List It × Nat) (hb : b.2 < b.1.length ∧ b.1.length ≤ 1000000 ∧ b.1.length = n) : g25s_0 (0, n, cp) ((b.2 : Int), R b.1 ++ X) = goD b := by
  obtain ⟨l, i⟩ := b
  obtain ⟨hi, hl, hn⟩ := hb
  simp only at hi hl hn ⊢
  subst hn
  obtain ⟨h1, h2⟩ := lst25s X cp hi hl
  have hm := leastD_lt hi
  have eb : ((leastD l i : Int) != (i : Int)) = !(leastD l i == i) := by
    by_cases e : leastD l i = i
    · rw [e]; simp
    · have h1 : ((leastD l i : Int) != (i : Int)) = true := bne_iff_ne.2 (by omega)
      have h2 : (leastD l i == i) = false := beq_eq_false_iff_ne.2 e
      rw [h1, h2]; rfl
  unfold g25s_0 go25s_0 goD
  dsimp only
  rw [h1, h2, eb, decide_eq_true (show (0 : Int) ≤ (leastD l i : Int) by omega), decide_eq_true (show (leastD l i : Int) < (l.length : Int) by omega), decide_eq_true (show (0 : Int) ≤ (i : Int) by omega), decide_eq_true (show (i : Int) < (l.length : Int) by omega)]
  cases leastD l i == i <;> rfl
theorem sim25sn (X : List (List AV)) (cp n : Nat) (b : List It × Nat) (hb : b.2 < b.1.length ∧ b.1.length ≤ 1000000 ∧ b.1.length = n) (hg : goD b = true) : n25s_0 (0, n, cp) ((b.2 : Int), R b.1 ++ X) = (((nxD b).2 : Int), R (nxD b).1 ++ X) ∧ ((nxD b).2 < (nxD b).1.length ∧ (nxD b).1.length ≤ 1000000 ∧ (nxD b).1.length = n) := by
  obtain ⟨l, i⟩ := b
  obtain ⟨hi, hl, hn⟩ := hb
  simp only at hi hl hn ⊢
  subst hn
  obtain ⟨h1, h2⟩ := lst25s X cp hi hl
  have hm := leastD_lt hi
  refine ⟨?_, ?_⟩
  · unfold n25s_0 nx25s_0_4 nxD
    dsimp only
    rw [h1, Int.toNat_natCast, Int.toNat_natCast, Nat.add_zero, Nat.add_zero, RX_get hm, RX_get hi]
    have e1 : [AV.int IntKind.i64 (intOf ((rI (at' l (leastD l i))).getD 0 AV.junk)), AV.int IntKind.i64 (intOf ((rI (at' l (leastD l i))).getD (0 + 1) AV.junk))] = rI (at' l (leastD l i)) := rfl
    have e2 : [AV.int IntKind.i64 (intOf ((rI (at' l i)).getD 0 AV.junk)), AV.int IntKind.i64 (intOf ((rI (at' l i)).getD (0 + 1) AV.junk))] = rI (at' l i) := rfl
    rw [e1, e2, RX_set _ hi, RX_set _ (by rw [List.length_set]; exact hm)]
    rfl
  · unfold nxD
    refine ⟨?_, ?_, ?_⟩ <;> simp only [swapL_len] <;> omega
theorem down25s {l : List It} {i : Nat} (X : List (List AV)) (cp : Nat) (hi : i < l.length) (hl : l.length ≤ 1000000) {r : List It} {j : Nat} (h : Ends goD nxD (l, i) (r, j)) : vev25s_0 (R l ++ X) l.length cp (i : Int) = R r ++ X ∧ vev25s_1 (R l ++ X) l.length cp (i : Int) = true := by
  obtain ⟨h1, h2⟩ := Ends.map (fun b : List It × Nat => ((b.2 : Int), R b.1 ++ X)) (fun b => b.2 < b.1.length ∧ b.1.length ≤ 1000000 ∧ b.1.length = l.length) (sim25s X cp l.length) (sim25sn X cp l.length) (b := (l, i)) ⟨hi, hl, rfl⟩ h
  have f := h1.fin
  unfold vev25s_0 vev25s_1 rev25s_0
  simp only [spI]
  rw [f.2, f.1]
  refine ⟨rfl, ?_⟩
  have hs : goD (r, j) = false := by obtain ⟨n, _, hr⟩ := h; exact hr
  simp only at h2
  obtain ⟨q1, q2⟩ := lst25s X cp h2.1 h2.2.1
  have hlj : leastD r j = j := by
    unfold goD at hs
    simpa using hs
  unfold y25s_0 z25s_0 xc25s_0_0
  dsimp only
  rw [← h2.2.2, q1, q2, hlj]
  simp
/-! Is a list a heap? -/
theorem chk13 (tk : Tk) {l : List It} (hl : l.length ≤ 1000000) : vev13_0 tk (R l) = (bif isH l then 0 else 10) ∧ vev13_1 tk (R l) = true := by
  have e : ∀ k : Nat, 0 < k → k ≤ 1000000 → rn13_2_0 tk (R l) (k : Int) = (((k - 1) / 2 : Nat) : Int) := fun k h0 hk => half h0 hk
  have go : ∀ k : Nat, 0 < k → k < l.length → g13_2 (tk, R l) (k : Int) = !(ltI (at' l k) (at' l ((k - 1) / 2))) := fun k h0 hk => by
    have hp : (k - 1) / 2 < l.length := by omega
    obtain ⟨v0, v1⟩ := v29 tk hk hp
    unfold g13_2 go13_2
    dsimp only
    rw [e k h0 (by omega), v0, v1, R_len, decide_eq_true (show (k : Int) < (l.length : Int) by omega)]
    cases ltI (at' l k) (at' l ((k - 1) / 2)) <;> rfl
  have nx : ∀ k : Nat, k < l.length → n13_2 (tk, R l) (k : Int) = ((k + 1 : Nat) : Int) := fun k hk => by
    unfold n13_2 nx13_2_2
    rw [wrapOf _ (by omega) (by omega)]
    rfl
  -- where it ends
  have key : ∀ (n k : Nat), l.length - k = n → 0 < k → (∀ j, 0 < j → j < k → j < l.length → okAt l j) →
      ∃ r : Nat, Ends (g13_2 (tk, R l)) (n13_2 (tk, R l)) (k : Int) (r : Int) ∧ ((l.length ≤ r ∧ HeapL l) ∨ (0 < r ∧ r < l.length ∧ ltI (at' l r) (at' l ((r - 1) / 2)) = true)) := by
    intro n
    induction n with
    | zero =>
      intro k hk h0 hh
      refine ⟨k, Ends.stop ?_, .inl ⟨by omega, fun j hj hjl => hh j hj (by omega) hjl⟩⟩
      unfold g13_2 go13_2
      dsimp only
      rw [R_len, decide_eq_false (by omega)]
      rfl
    | succ n ih =>
      intro k hk h0 hh
      have hkl : k < l.length := by omega
      cases hb : ltI (at' l k) (at' l ((k - 1) / 2)) with
      | true => exact ⟨k, Ends.stop (by rw [go k h0 hkl, hb]; rfl), .inr ⟨h0, hkl, hb⟩⟩
      | false =>
        obtain ⟨r, hr, hd⟩ := ih (k + 1) (by omega) (by omega) (fun j hj hjk hjl => by
          by_cases ej : j = k
          · subst ej; exact hb
          · exact hh j hj (by omega) hjl)
        exact ⟨r, Ends.step (by rw [go k h0 hkl, hb]; rfl) (by rw [nx k hkl]; exact hr), hd⟩
  obtain ⟨r, hr, hd⟩ := key _ 1 rfl (by omega) (fun j hj h1 _ => by omega)
  have f := hr.fin
  unfold vev13_0 vev13_1 rev13_0
  simp only [spI]
  have f2 : finL (g13_2 (tk, R l)) (n13_2 (tk, R l)) 1 = (r : Int) := f.2
  have f1 : stopsB (g13_2 (tk, R l)) (n13_2 (tk, R l)) 1 = true := f.1
  rw [f2, f1]
  unfold y13_2 z13_2 xc13_2_0 xc13_2_1
  dsimp only
  rcases hd with ⟨h1, h2⟩ | ⟨h1, h2, h3⟩
  · rw [R_len, decide_eq_false (show ¬ (r : Int) < (l.length : Int) by omega), isH_iff.2 h2]
    exact ⟨rfl, rfl⟩
  · have hp : (r - 1) / 2 < l.length := by omega
    obtain ⟨v0, v1⟩ := v29 tk h2 hp
    have hn : isH l = false := isH_not.2 fun hh => by have := hh r h1 h2; unfold okAt at this; rw [h3] at this; cases this
    rw [R_len, decide_eq_true (show (r : Int) < (l.length : Int) by omega), e r h1 (by omega), v0, v1, h3, hn]
    exact ⟨rfl, rfl⟩
end Go.Proofs.Gv
