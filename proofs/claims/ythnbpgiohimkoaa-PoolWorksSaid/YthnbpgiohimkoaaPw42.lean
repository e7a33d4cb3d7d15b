import Derived.Test.YthnbpgiohimkoaaPw41
import Derived.Test.YthnbpgiohimkoaaPw40
import Derived.Test.YthnbpgiohimkoaaPw38
import Derived.KernelRfl
set_option linter.unusedVariables false
namespace Go.Proofs.Gv
open Go.Proofs
open List (Perm)
theorem Ends.map {α β : Type} {go : α → Bool} {next : α → α} {goL : β → Bool} {nextL : β → β} (enc : β → α) (Inv : β → Prop) (hgo : ∀ b, Inv b → go (enc b) = goL b) (hnx : ∀ b, Inv b → goL b = true → next (enc b) = enc (nextL b) ∧ Inv (nextL b)) {b r : β} (hb : Inv b) (h : Ends goL nextL b r) : Ends go next (enc b) (enc r) ∧ Inv r := by
 obtain ⟨n, hn, hr⟩ := h
 induction n generalizing b with
 | zero =>
   simp only [iterL] at hn
   subst hn
   exact ⟨Ends.stop (by rw [hgo b hb, hr]), hb⟩
 | succ n ih =>
   cases hg : goL b with
   | false =>
     simp only [iterL, hg, cond_false] at hn
     subst hn
     exact ⟨Ends.stop (by rw [hgo b hb, hr]), hb⟩
   | true =>
     simp only [iterL, hg, cond_true] at hn
     obtain ⟨e1, e2⟩ := hnx b hb hg
     obtain ⟨h1, h2⟩ := ih e2 hn
     exact ⟨Ends.step (by rw [hgo b hb, hg]) (by rw [e1]; exact h1), h2⟩
def rI (x : It) : List AV := [AV.int IntKind.i64 x.1, AV.int IntKind.i64 x.2]
def R (l : List It) : List (List AV) := l.map rI
theorem R_len (l : List It) : (R l).length = l.length := List.length_map _
theorem R_get {l : List It} {i : Nat} (h : i < l.length) : (R l).getD i [] = rI (at' l i) := by
 rw [at_lt h]
 simp [R, List.getD, h]
theorem R_key {l : List It} {i : Nat} (h : i < l.length) : intOf (((R l).getD i []).getD 0 AV.junk) = (at' l i).1 := by rw [R_get h]; rfl
theorem R_id {l : List It} {i : Nat} (h : i < l.length) : intOf (((R l).getD i []).getD (0 + 1) AV.junk) = (at' l i).2 := by rw [R_get h]; rfl
theorem R_set {l : List It} {i : Nat} (x : It) : (R l).set i (rI x) = R (l.set i x) := by unfold R; rw [List.map_set]
theorem R_app (l m : List It) : R (l ++ m) = R l ++ R m := List.map_append
theorem RX_get {l : List It} {X : List (List AV)} {i : Nat} (h : i < l.length) : (R l ++ X).getD i [] = rI (at' l i) := by
 rw [← R_get h]
 simp [List.getD, List.getElem?_append, R_len, h]
theorem RX_take (l : List It) (X : List (List AV)) : List.take l.length (List.drop 0 (R l ++ X)) = R l := by
 rw [List.drop_zero, ← R_len l, List.take_left]
theorem RX_set {l : List It} {X : List (List AV)} {i : Nat} (x : It) (h : i < l.length) : (R l ++ X).set i (rI x) = R (l.set i x) ++ X := by
 rw [List.set_append_left _ _ (by rw [R_len]; exact h), R_set]
theorem v15 (a b c d : Int) : vev119_0 a b c d = ltI (a, b) (c, d) := by
 unfold vev119_0 ltI
 cases decide (a < c) <;> cases (a == c) <;> cases decide (b < d) <;> rfl
theorem v29 (tk : Tk) {l : List It} {i k : Nat} (hi : i < l.length) (hk : k < l.length) : vev112_0 tk (R l) (i : Int) (k : Int) = ltI (at' l i) (at' l k) ∧ vev112_1 tk (R l) (i : Int) (k : Int) = true := by
 unfold vev112_0 vev112_1
 rw [Int.toNat_natCast, Int.toNat_natCast, R_key hi, R_id hi, R_key hk, R_id hk, v15, R_len, decide_eq_true (show (0 : Int) ≤ (i : Int) by omega), decide_eq_true (show (i : Int) < (l.length : Int) by omega), decide_eq_true (show (0 : Int) ≤ (k : Int) by omega), decide_eq_true (show (k : Int) < (l.length : Int) by omega)]
 exact ⟨rfl, rfl⟩
theorem half {i : Nat} (h : 0 < i) (hi : i ≤ 1000000) : IntKind.i64.wrap ((IntKind.i64.wrap ((i : Int) - 1)).tdiv 2) = (((i - 1) / 2 : Nat) : Int) := by
 rw [wrapOf ((i : Int) - 1) (by omega) (by omega), Int.tdiv_eq_ediv_of_nonneg (by omega), wrapOf _ (by omega) (by omega)]
 omega
/-! An item rises. -/
theorem rn87 {l : List It} {i : Nat} (h : 0 < i) (hi : i ≤ 1000000) (b : List (List AV)) : rn87_0_0 (i : Int) b = (((i - 1) / 2 : Nat) : Int) := half h hi
theorem sim31 (b : List It × Nat) (hb : b.2 < b.1.length ∧ b.1.length ≤ 1000000) : g87_0 () ((b.2 : Int), R b.1) = goU b := by
 obtain ⟨l, i⟩ := b
 obtain ⟨hi, hl⟩ := hb
 simp only at hi hl ⊢
 unfold g87_0 go87_0 goU
 dsimp only
 by_cases h0 : 0 < i
 ·have e := rn87 (l := l) h0 (by omega) (R l)
  have hp : (i - 1) / 2 < l.length := by omega
  obtain ⟨v0, v1⟩ := v29 .lent hi hp
  have eL : rn87_0_1 (i : Int) (R l) = (l.length : Int) := by unfold rn87_0_1; rw [List.length_set, R_len]
  rw [e, eL, v0, v1, R_len, decide_eq_true (show (i : Int) > 0 by omega), decide_eq_true h0, decide_eq_true (show (0 : Int) ≤ (((i - 1) / 2 : Nat) : Int) by omega), decide_eq_true (show (((i - 1) / 2 : Nat) : Int) < (l.length : Int) by omega), decide_eq_true (show (0 : Int) ≤ (i : Int) by omega), decide_eq_true (show (i : Int) < (l.length : Int) by omega)]
  cases ltI (at' l i) (at' l ((i - 1) / 2)) <;> rfl
 ·have : i = 0 := by omega
  subst this
  rfl
theorem sim31n (b : List It × Nat) (hb : b.2 < b.1.length ∧ b.1.length ≤ 1000000) (hg : goU b = true) : n87_0 () ((b.2 : Int), R b.1) = (((nxU b).2 : Int), R (nxU b).1) ∧ ((nxU b).2 < (nxU b).1.length ∧ (nxU b).1.length ≤ 1000000) := by
 obtain ⟨l, i⟩ := b
 obtain ⟨hi, hl⟩ := hb
 simp only at hi hl ⊢
 have h0 : 0 < i := by
  unfold goU at hg
  simp only [Bool.and_eq_true, decide_eq_true_eq] at hg
  exact hg.1
 have e := rn87 (l := l) h0 (by omega) (R l)
 have hp : (i - 1) / 2 < l.length := by omega
 refine ⟨?_, ?_⟩
 ·unfold n87_0 nx87_0_1 nxU
  dsimp only
  rw [e, Int.toNat_natCast, Int.toNat_natCast, R_key hp, R_id hp, R_key hi, R_id hi]
  have e1 : [AV.int IntKind.i64 (at' l ((i - 1) / 2)).fst, AV.int IntKind.i64 (at' l ((i - 1) / 2)).snd] = rI (at' l ((i - 1) / 2)) := rfl
  have e2 : [AV.int IntKind.i64 (at' l i).fst, AV.int IntKind.i64 (at' l i).snd] = rI (at' l i) := rfl
  rw [e1, e2, R_set, R_set]
  rfl
 ·unfold nxU
  simp only [swapL_len]
  omega
theorem up31 {l : List It} {i : Nat} (hi : i < l.length) (hl : l.length ≤ 1000000) {r : List It} {j : Nat} (h : Ends goU nxU (l, i) (r, j)) : vev87_0 (R l) (i : Int) = R r ∧ vev87_1 (R l) (i : Int) = true := by
 obtain ⟨h1, h2⟩ := Ends.map (fun b : List It × Nat => ((b.2 : Int), R b.1)) (fun b => b.2 < b.1.length ∧ b.1.length ≤ 1000000) sim31 sim31n (b := (l, i)) ⟨hi, hl⟩ h
 have f := h1.fin
 unfold vev87_0 vev87_1 rev87_0
 simp only [spI]
 rw [f.2, f.1]
 refine ⟨rfl, ?_⟩
 have hs : goU (r, j) = false := by obtain ⟨n, _, hr⟩ := h; exact hr
 unfold y87_0 z87_0 xc87_0_0
 dsimp only
 simp only at h2
 by_cases h0 : 0 < j
 ·have e := rn87 (l := r) h0 (by omega) (R r)
  have hp : (j - 1) / 2 < r.length := by omega
  obtain ⟨v0, v1⟩ := v29 .lent h2.1 hp
  unfold goU at hs
  simp only [decide_eq_true h0, Bool.true_and] at hs
  rw [e, v0, v1, hs, decide_eq_true (show (j : Int) > 0 by omega)]
  rfl
 ·have : j = 0 := by omega
  subst this
  rfl
/-! .. in a part of a row. -/
theorem sim31s (X : List (List AV)) (cp n : Nat) (b : List It × Nat) (hb : b.2 < b.1.length ∧ b.1.length ≤ 1000000 ∧ b.1.length = n) : g87s_0 (0, n, cp) ((b.2 : Int), R b.1 ++ X) = goU b := by
 obtain ⟨l, i⟩ := b
 obtain ⟨hi, hl, hn⟩ := hb
 simp only at hi hl hn ⊢
 subst hn
 unfold g87s_0 go87s_0 rn87s_0_0 goU
 dsimp only
 rw [RX_take]
 by_cases h0 : 0 < i
 ·have e : rn87s_0_1 0 l.length cp (i : Int) (R l ++ X) = (((i - 1) / 2 : Nat) : Int) := half h0 (by omega)
  have hp : (i - 1) / 2 < l.length := by omega
  obtain ⟨v0, v1⟩ := v29 .lent hi hp
  rw [e, v0, v1, decide_eq_true (show (i : Int) > 0 by omega), decide_eq_true h0, decide_eq_true (show (0 : Int) ≤ (((i - 1) / 2 : Nat) : Int) by omega), decide_eq_true (show (((i - 1) / 2 : Nat) : Int) < (l.length : Int) by omega), decide_eq_true (show (0 : Int) ≤ (i : Int) by omega), decide_eq_true (show (i : Int) < (l.length : Int) by omega)]
  cases ltI (at' l i) (at' l ((i - 1) / 2)) <;> rfl
 ·have : i = 0 := by omega
  subst this
  rfl
theorem sim31sn (X : List (List AV)) (cp n : Nat) (b : List It × Nat) (hb : b.2 < b.1.length ∧ b.1.length ≤ 1000000 ∧ b.1.length = n) (hg : goU b = true) : n87s_0 (0, n, cp) ((b.2 : Int), R b.1 ++ X) = (((nxU b).2 : Int), R (nxU b).1 ++ X) ∧ ((nxU b).2 < (nxU b).1.length ∧ (nxU b).1.length ≤ 1000000 ∧ (nxU b).1.length = n) := by
 obtain ⟨l, i⟩ := b
 obtain ⟨hi, hl, hn⟩ := hb
 simp only at hi hl hn ⊢
 subst hn
 have h0 : 0 < i := by
  unfold goU at hg
  simp only [Bool.and_eq_true, decide_eq_true_eq] at hg
  exact hg.1
 have e : rn87s_0_1 0 l.length cp (i : Int) (R l ++ X) = (((i - 1) / 2 : Nat) : Int) := half h0 (by omega)
 have hp : (i - 1) / 2 < l.length := by omega
 refine ⟨?_, ?_⟩
 ·unfold n87s_0 nx87s_0_4 nxU
  dsimp only
  rw [e, Int.toNat_natCast, Int.toNat_natCast, Nat.add_zero, Nat.add_zero, RX_get hp, RX_get hi]
  have e1 : [AV.int IntKind.i64 (intOf ((rI (at' l ((i - 1) / 2))).getD 0 AV.junk)), AV.int IntKind.i64 (intOf ((rI (at' l ((i - 1) / 2))).getD (0 + 1) AV.junk))] = rI (at' l ((i - 1) / 2)) := rfl
  have e2 : [AV.int IntKind.i64 (intOf ((rI (at' l i)).getD 0 AV.junk)), AV.int IntKind.i64 (intOf ((rI (at' l i)).getD (0 + 1) AV.junk))] = rI (at' l i) := rfl
  rw [e1, e2, RX_set _ hi, RX_set _ (by rw [List.length_set]; exact hp)]
  rfl
 ·unfold nxU
  refine ⟨?_, ?_, ?_⟩ <;> simp only [swapL_len] <;> omega
theorem up31s {l : List It} {i : Nat} (X : List (List AV)) (cp : Nat) (hi : i < l.length) (hl : l.length ≤ 1000000) {r : List It} {j : Nat} (h : Ends goU nxU (l, i) (r, j)) : vev87s_0 (R l ++ X) l.length cp (i : Int) = R r ++ X ∧ vev87s_1 (R l ++ X) l.length cp (i : Int) = true := by
 obtain ⟨h1, h2⟩ := Ends.map (fun b : List It × Nat => ((b.2 : Int), R b.1 ++ X)) (fun b => b.2 < b.1.length ∧ b.1.length ≤ 1000000 ∧ b.1.length = l.length) (sim31s X cp l.length) (sim31sn X cp l.length) (b := (l, i)) ⟨hi, hl, rfl⟩ h
 have f := h1.fin
 unfold vev87s_0 vev87s_1 rev87s_0
 simp only [spI]
 rw [f.2, f.1]
 refine ⟨rfl, ?_⟩
 have hs : goU (r, j) = false := by obtain ⟨n, _, hr⟩ := h; exact hr
 simp only at h2
 unfold y87s_0 z87s_0 xc87s_0_0 rn87s_0_0
 dsimp only
 rw [← h2.2.2, RX_take]
 by_cases h0 : 0 < j
 ·have e : rn87s_0_1 0 r.length cp (j : Int) (R r ++ X) = (((j - 1) / 2 : Nat) : Int) := half h0 (by omega)
  have hp : (j - 1) / 2 < r.length := by omega
  obtain ⟨v0, v1⟩ := v29 .lent h2.1 hp
  unfold goU at hs
  simp only [decide_eq_true h0, Bool.true_and] at hs
  rw [e, v0, v1, hs, decide_eq_true (show (j : Int) > 0 by omega)]
  rfl
 ·have : j = 0 := by omega
  subst this
  rfl
/-! An item sinks: the least of it and of those below it. -/
theorem least25 {l : List It} {i : Nat} (hi : i < l.length) (hl : l.length ≤ 1000000) : ∃ k : Int, Ends (g114_2 ((i : Int), R l)) (n114_2 ((i : Int), R l)) ((i : Int), IntKind.i64.wrap (IntKind.i64.wrap (2 * (i : Int)) + 1)) ((leastD l i : Int), k) ∧
  (bif decide (k ≤ 2 * (i : Int) + 2) then decide (k < (l.length : Int)) else false) = false := by
 have e1 : IntKind.i64.wrap (IntKind.i64.wrap (2 * (i : Int)) + 1) = ((2 * i + 1 : Nat) : Int) := by rw [wrapOf (2 * (i : Int)) (by omega) (by omega), wrapOf _ (by omega) (by omega)]; omega
 have eB : ∀ t4 t5, rn114_2_0 (i : Int) t4 t5 (R l) = 2 * (i : Int) + 2 := fun t4 t5 => by unfold rn114_2_0; rw [wrapOf (2 * (i : Int)) (by omega) (by omega), wrapOf _ (by omega) (by omega)]
 have go1 : ∀ (m k : Nat), m < l.length → (k ≤ 2 * i + 2 ∧ k < l.length) → g114_2 ((i : Int), R l) ((m : Int), (k : Int)) = true := fun m k hm hk => by
  obtain ⟨v0, v1⟩ := v29 .lent hk.2 hm
  unfold g114_2 go114_2
  dsimp only
  rw [eB, R_len, v1, decide_eq_true (show (k : Int) ≤ 2 * (i : Int) + 2 by omega), decide_eq_true (show (k : Int) < (l.length : Int) by omega)]
  rfl
 have go0 : ∀ (m k : Nat), ¬ (k ≤ 2 * i + 2 ∧ k < l.length) → (bif decide ((k : Int) ≤ 2 * (i : Int) + 2) then decide ((k : Int) < (l.length : Int)) else false) = false ∧ g114_2 ((i : Int), R l) ((m : Int), (k : Int)) = false := fun m k hk => by
  have hc : (bif decide ((k : Int) ≤ 2 * (i : Int) + 2) then decide ((k : Int) < (l.length : Int)) else false) = false := by
   by_cases h : k ≤ 2 * i + 2
   ·rw [decide_eq_false (show ¬ (k : Int) < (l.length : Int) by omega)]
    cases decide ((k : Int) ≤ 2 * (i : Int) + 2) <;> rfl
   ·rw [decide_eq_false (show ¬ (k : Int) ≤ 2 * (i : Int) + 2 by omega)]
    rfl
  refine ⟨hc, ?_⟩
  unfold g114_2 go114_2
  dsimp only
  rw [eB, R_len, hc]
  rfl
 have nx : ∀ (m k : Nat), m < l.length → k < l.length → n114_2 ((i : Int), R l) ((m : Int), (k : Int)) = (((if ltI (at' l k) (at' l m) = true then k else m : Nat) : Int), ((k + 1 : Nat) : Int)) := fun m k hm hk => by
  obtain ⟨v0, v1⟩ := v29 .lent hk hm
  unfold n114_2 nx114_2_1 nx114_2_2
  dsimp only
  rw [v0, wrapOf _ (by omega) (by omega)]
  cases ltI (at' l k) (at' l m) <;> rfl
 rw [e1]
 unfold leastD
 by_cases h1 : 2 * i + 1 < l.length
 ·by_cases h2 : 2 * i + 2 < l.length
  ·refine ⟨((2 * i + 3 : Nat) : Int), Ends.step (go1 _ _ hi ⟨by omega, h1⟩) ?_, (go0 0 _ (by omega)).1⟩
   rw [nx i (2 * i + 1) hi h1]
   have hm : (if ltI (at' l (2 * i + 1)) (at' l i) = true then 2 * i + 1 else i) < l.length := by split <;> omega
   refine Ends.step (go1 _ _ hm ⟨by omega, h2⟩) ?_
   rw [nx _ (2 * i + 2) hm h2]
   have e : (let m := if 2 * i + 1 < l.length ∧ ltI (at' l (2 * i + 1)) (at' l i) = true then 2 * i + 1 else i; if 2 * i + 2 < l.length ∧ ltI (at' l (2 * i + 2)) (at' l m) = true then 2 * i + 2 else m) = (if ltI (at' l (2 * i + 2)) (at' l (if ltI (at' l (2 * i + 1)) (at' l i) = true then 2 * i + 1 else i)) = true then 2 * i + 2 else (if ltI (at' l (2 * i + 1)) (at' l i) = true then 2 * i + 1 else i)) := by simp only [h1, h2, true_and]
   rw [e]
   exact Ends.stop (go0 _ _ (by omega)).2
  ·refine ⟨((2 * i + 2 : Nat) : Int), Ends.step (go1 _ _ hi ⟨by omega, h1⟩) ?_, (go0 0 _ (by omega)).1⟩
   rw [nx i (2 * i + 1) hi h1]
   have e : (let m := if 2 * i + 1 < l.length ∧ ltI (at' l (2 * i + 1)) (at' l i) = true then 2 * i + 1 else i; if 2 * i + 2 < l.length ∧ ltI (at' l (2 * i + 2)) (at' l m) = true then 2 * i + 2 else m) = (if ltI (at' l (2 * i + 1)) (at' l i) = true then 2 * i + 1 else i) := by simp only [h1, h2, true_and, false_and, if_false]
   rw [e]
   exact Ends.stop (go0 _ _ (by omega)).2
 ·have e : (let m := if 2 * i + 1 < l.length ∧ ltI (at' l (2 * i + 1)) (at' l i) = true then 2 * i + 1 else i; if 2 * i + 2 < l.length ∧ ltI (at' l (2 * i + 2)) (at' l m) = true then 2 * i + 2 else m) = i := by simp only [h1, show ¬ 2 * i + 2 < l.length by omega, false_and, if_false]
  rw [e]
  exact ⟨((2 * i + 1 : Nat) : Int), Ends.stop (go0 _ _ (by omega)).2, (go0 0 _ (by omega)).1⟩
theorem lst25 {l : List It} {i : Nat} (hi : i < l.length) (hl : l.length ≤ 1000000) : rn114_0_1 (i : Int) (R l) = (leastD l i : Int) ∧ (spI g114_2 n114_2 y114_2 z114_2 d114_2 (((i : Int), R l), (i : Int), IntKind.i64.wrap (IntKind.i64.wrap (2 * (i : Int)) + 1))).fst = true := by
 obtain ⟨k, he, hk⟩ := least25 hi hl
 have f := he.fin
 refine ⟨by unfold rn114_0_1 rn114_0_0; rw [f.2], ?_⟩
 simp only [spI]
 rw [f.2, f.1]
 have eB : rn114_2_0 (i : Int) (leastD l i : Int) k (R l) = 2 * (i : Int) + 2 := by unfold rn114_2_0; rw [wrapOf (2 * (i : Int)) (by omega) (by omega), wrapOf _ (by omega) (by omega)]
 unfold y114_2 z114_2 xc114_2_0
 dsimp only
 rw [eB, R_len, hk]
 rfl
theorem leastD_lt {l : List It} {i : Nat} (hi : i < l.length) : leastD l i < l.length := by
 rcases leastD_cases l i with ⟨h, _⟩ | ⟨_, h, _⟩
 ·omega
 ·exact h
theorem sim25 (b : List It × Nat) (hb : b.2 < b.1.length ∧ b.1.length ≤ 1000000) : g114_0 () ((b.2 : Int), R b.1) = goD b := by
 obtain ⟨l, i⟩ := b
 obtain ⟨hi, hl⟩ := hb
 simp only at hi hl ⊢
 obtain ⟨h1, h2⟩ := lst25 hi hl
 have hm := leastD_lt hi
 have eL : rn114_0_2 (i : Int) (R l) = (l.length : Int) := by unfold rn114_0_2; rw [List.length_set, R_len]
 have eb : ((leastD l i : Int) != (i : Int)) = !(leastD l i == i) := by
  by_cases e : leastD l i = i
  ·rw [e]; simp
  ·have h1 : ((leastD l i : Int) != (i : Int)) = true := bne_iff_ne.2 (by omega)
   have h2 : (leastD l i == i) = false := beq_eq_false_iff_ne.2 e
   rw [h1, h2]; rfl
 unfold g114_0 go114_0 goD
 dsimp only
 rw [h1, h2, eL, eb, R_len, decide_eq_true (show (0 : Int) ≤ (leastD l i : Int) by omega), decide_eq_true (show (leastD l i : Int) < (l.length : Int) by omega), decide_eq_true (show (0 : Int) ≤ (i : Int) by omega), decide_eq_true (show (i : Int) < (l.length : Int) by omega)]
 cases leastD l i == i <;> rfl
theorem sim25n (b : List It × Nat) (hb : b.2 < b.1.length ∧ b.1.length ≤ 1000000) (hg : goD b = true) : n114_0 () ((b.2 : Int), R b.1) = (((nxD b).2 : Int), R (nxD b).1) ∧ ((nxD b).2 < (nxD b).1.length ∧ (nxD b).1.length ≤ 1000000) := by
 obtain ⟨l, i⟩ := b
 obtain ⟨hi, hl⟩ := hb
 simp only at hi hl ⊢
 obtain ⟨h1, h2⟩ := lst25 hi hl
 have hm := leastD_lt hi
 refine ⟨?_, ?_⟩
 ·unfold n114_0 nx114_0_1 nxD
  dsimp only
  rw [h1, Int.toNat_natCast, Int.toNat_natCast, R_key hm, R_id hm, R_key hi, R_id hi]
  have e1 : [AV.int IntKind.i64 (at' l (leastD l i)).fst, AV.int IntKind.i64 (at' l (leastD l i)).snd] = rI (at' l (leastD l i)) := rfl
  have e2 : [AV.int IntKind.i64 (at' l i).fst, AV.int IntKind.i64 (at' l i).snd] = rI (at' l i) := rfl
  rw [e1, e2, R_set, R_set]
  rfl
 ·unfold nxD
  refine ⟨?_, ?_⟩ <;> simp only [swapL_len] <;> omega
theorem down25 {l : List It} {i : Nat} (hi : i < l.length) (hl : l.length ≤ 1000000) {r : List It} {j : Nat} (h : Ends goD nxD (l, i) (r, j)) : vev114_0 (R l) (i : Int) = R r ∧ vev114_1 (R l) (i : Int) = true := by
 obtain ⟨h1, h2⟩ := Ends.map (fun b : List It × Nat => ((b.2 : Int), R b.1)) (fun b => b.2 < b.1.length ∧ b.1.length ≤ 1000000) sim25 sim25n (b := (l, i)) ⟨hi, hl⟩ h
 have f := h1.fin
 unfold vev114_0 vev114_1 rev114_0
 simp only [spI]
 rw [f.2, f.1]
 refine ⟨rfl, ?_⟩
 have hs : goD (r, j) = false := by obtain ⟨n, _, hr⟩ := h; exact hr
 simp only at h2
 obtain ⟨q1, q2⟩ := lst25 h2.1 h2.2
 have hlj : leastD r j = j := by
  unfold goD at hs
  simpa using hs
 unfold y114_0 z114_0 xc114_0_0
 dsimp only
 rw [q1, q2, hlj]
 simp
/-! .. in a part of a row. -/
section
variable {l : List It} (X : List (List AV)) (cp : Nat)
theorem g114s (t1 : Int) : g114s_2 (0, l.length, cp, t1, R l ++ X) = g114_2 (t1, R l) := by
 funext s
 unfold g114s_2 go114s_2 rn114s_2_1 g114_2 go114_2
 dsimp only
 rw [RX_take, R_len]
 rfl
theorem n114s (t1 : Int) : n114s_2 (0, l.length, cp, t1, R l ++ X) = n114_2 (t1, R l) := by
 funext s
 unfold n114s_2 nx114s_2_4 rn114s_2_1 n114_2 nx114_2_1
 dsimp only
 rw [RX_take]
 rfl
theorem lst25s {i : Nat} (hi : i < l.length) (hl : l.length ≤ 1000000) : rn114s_0_1 0 l.length cp (i : Int) (R l ++ X) = (leastD l i : Int) ∧ (spI g114s_2 n114s_2 y114s_2 z114s_2 d114s_2 ((0, l.length, cp, (i : Int), R l ++ X), (i : Int), IntKind.i64.wrap (IntKind.i64.wrap (2 * (i : Int)) + 1))).fst = true := by
 obtain ⟨k, he, hk⟩ := least25 hi hl
 rw [← g114s X cp, ← n114s X cp] at he
 have f := he.fin
 refine ⟨by unfold rn114s_0_1 rn114s_0_0; rw [f.2], ?_⟩
 simp only [spI]
 rw [f.2, f.1]
 have eB : rn114s_2_0 0 l.length cp (i : Int) (leastD l i : Int) k (R l ++ X) = 2 * (i : Int) + 2 := by unfold rn114s_2_0; rw [wrapOf (2 * (i : Int)) (by omega) (by omega), wrapOf _ (by omega) (by omega)]
 unfold y114s_2 z114s_2 xc114s_2_0
 dsimp only
 rw [eB, hk]
 rfl
end
theorem sim25s (X : List (List AV)) (cp n : Nat) (b : List It × Nat) (hb : b.2 < b.1.length ∧ b.1.length ≤ 1000000 ∧ b.1.length = n) : g114s_0 (0, n, cp) ((b.2 : Int), R b.1 ++ X) = goD b := by
 obtain ⟨l, i⟩ := b
 obtain ⟨hi, hl, hn⟩ := hb
 simp only at hi hl hn ⊢
 subst hn
 obtain ⟨h1, h2⟩ := lst25s X cp hi hl
 have hm := leastD_lt hi
 have eb : ((leastD l i : Int) != (i : Int)) = !(leastD l i == i) := by
  by_cases e : leastD l i = i
  ·rw [e]; simp
  ·have h1 : ((leastD l i : Int) != (i : Int)) = true := bne_iff_ne.2 (by omega)
   have h2 : (leastD l i == i) = false := beq_eq_false_iff_ne.2 e
   rw [h1, h2]; rfl
 unfold g114s_0 go114s_0 goD
 dsimp only
 rw [h1, h2, eb, decide_eq_true (show (0 : Int) ≤ (leastD l i : Int) by omega), decide_eq_true (show (leastD l i : Int) < (l.length : Int) by omega), decide_eq_true (show (0 : Int) ≤ (i : Int) by omega), decide_eq_true (show (i : Int) < (l.length : Int) by omega)]
 cases leastD l i == i <;> rfl
theorem sim25sn (X : List (List AV)) (cp n : Nat) (b : List It × Nat) (hb : b.2 < b.1.length ∧ b.1.length ≤ 1000000 ∧ b.1.length = n) (hg : goD b = true) : n114s_0 (0, n, cp) ((b.2 : Int), R b.1 ++ X) = (((nxD b).2 : Int), R (nxD b).1 ++ X) ∧ ((nxD b).2 < (nxD b).1.length ∧ (nxD b).1.length ≤ 1000000 ∧ (nxD b).1.length = n) := by
 obtain ⟨l, i⟩ := b
 obtain ⟨hi, hl, hn⟩ := hb
 simp only at hi hl hn ⊢
 subst hn
 obtain ⟨h1, h2⟩ := lst25s X cp hi hl
 have hm := leastD_lt hi
 refine ⟨?_, ?_⟩
 ·unfold n114s_0 nx114s_0_4 nxD
  dsimp only
  rw [h1, Int.toNat_natCast, Int.toNat_natCast, Nat.add_zero, Nat.add_zero, RX_get hm, RX_get hi]
  have e1 : [AV.int IntKind.i64 (intOf ((rI (at' l (leastD l i))).getD 0 AV.junk)), AV.int IntKind.i64 (intOf ((rI (at' l (leastD l i))).getD (0 + 1) AV.junk))] = rI (at' l (leastD l i)) := rfl
  have e2 : [AV.int IntKind.i64 (intOf ((rI (at' l i)).getD 0 AV.junk)), AV.int IntKind.i64 (intOf ((rI (at' l i)).getD (0 + 1) AV.junk))] = rI (at' l i) := rfl
  rw [e1, e2, RX_set _ hi, RX_set _ (by rw [List.length_set]; exact hm)]
  rfl
 ·unfold nxD
  refine ⟨?_, ?_, ?_⟩ <;> simp only [swapL_len] <;> omega
theorem down25s {l : List It} {i : Nat} (X : List (List AV)) (cp : Nat) (hi : i < l.length) (hl : l.length ≤ 1000000) {r : List It} {j : Nat} (h : Ends goD nxD (l, i) (r, j)) : vev114s_0 (R l ++ X) l.length cp (i : Int) = R r ++ X ∧ vev114s_1 (R l ++ X) l.length cp (i : Int) = true := by
 obtain ⟨h1, h2⟩ := Ends.map (fun b : List It × Nat => ((b.2 : Int), R b.1 ++ X)) (fun b => b.2 < b.1.length ∧ b.1.length ≤ 1000000 ∧ b.1.length = l.length) (sim25s X cp l.length) (sim25sn X cp l.length) (b := (l, i)) ⟨hi, hl, rfl⟩ h
 have f := h1.fin
 unfold vev114s_0 vev114s_1 rev114s_0
 simp only [spI]
 rw [f.2, f.1]
 refine ⟨rfl, ?_⟩
 have hs : goD (r, j) = false := by obtain ⟨n, _, hr⟩ := h; exact hr
 simp only at h2
 obtain ⟨q1, q2⟩ := lst25s X cp h2.1 h2.2.1
 have hlj : leastD r j = j := by
  unfold goD at hs
  simpa using hs
 unfold y114s_0 z114s_0 xc114s_0_0
 dsimp only
 rw [← h2.2.2, q1, q2, hlj]
 simp
/-! Is a list a heap? -/
theorem chk13 (tk : Tk) {l : List It} (hl : l.length ≤ 1000000) : vev109_0 tk (R l) = (bif isH l then 0 else 10) ∧ vev109_1 tk (R l) = true := by
 have e : ∀ k : Nat, 0 < k → k ≤ 1000000 → rn109_2_0 tk (R l) (k : Int) = (((k - 1) / 2 : Nat) : Int) := fun k h0 hk => half h0 hk
 have go : ∀ k : Nat, 0 < k → k < l.length → g109_2 (tk, R l) (k : Int) = !(ltI (at' l k) (at' l ((k - 1) / 2))) := fun k h0 hk => by
  have hp : (k - 1) / 2 < l.length := by omega
  obtain ⟨v0, v1⟩ := v29 tk hk hp
  unfold g109_2 go109_2
  dsimp only
  rw [e k h0 (by omega), v0, v1, R_len, decide_eq_true (show (k : Int) < (l.length : Int) by omega)]
  cases ltI (at' l k) (at' l ((k - 1) / 2)) <;> rfl
 have nx : ∀ k : Nat, k < l.length → n109_2 (tk, R l) (k : Int) = ((k + 1 : Nat) : Int) := fun k hk => by
  unfold n109_2 nx109_2_2
  rw [wrapOf _ (by omega) (by omega)]
  rfl
 have key : ∀ (n k : Nat), l.length - k = n → 0 < k → (∀ j, 0 < j → j < k → j < l.length → okAt l j) →
   ∃ r : Nat, Ends (g109_2 (tk, R l)) (n109_2 (tk, R l)) (k : Int) (r : Int) ∧ ((l.length ≤ r ∧ HeapL l) ∨ (0 < r ∧ r < l.length ∧ ltI (at' l r) (at' l ((r - 1) / 2)) = true)) := by
  intro n
  induction n with
  | zero =>
    intro k hk h0 hh
    refine ⟨k, Ends.stop ?_, .inl ⟨by omega, fun j hj hjl => hh j hj (by omega) hjl⟩⟩
    unfold g109_2 go109_2
    dsimp only
    rw [R_len, decide_eq_false (by omega)]
    rfl
  | succ n ih =>
    intro k hk h0 hh
    have hkl : k < l.length := by omega
    cases hb : ltI (at' l k) (at' l ((k - 1) / 2)) with
    | true => exact ⟨k, Ends.stop (by rw [go k h0 hkl, hb]; rfl), .inr ⟨h0, hkl, hb⟩⟩
    | false =>
      obtain ⟨r, hr, hd⟩ := ih (k + 1) (by omega) (by omega) (fun j hj hjk hjl => by
       by_cases ej : j = k
       ·subst ej; exact hb
       ·exact hh j hj (by omega) hjl)
      exact ⟨r, Ends.step (by rw [go k h0 hkl, hb]; rfl) (by rw [nx k hkl]; exact hr), hd⟩
 obtain ⟨r, hr, hd⟩ := key _ 1 rfl (by omega) (fun j hj h1 _ => by omega)
 have f := hr.fin
 unfold vev109_0 vev109_1 rev109_0
 simp only [spI]
 have f2 : finL (g109_2 (tk, R l)) (n109_2 (tk, R l)) 1 = (r : Int) := f.2
 have f1 : stopsB (g109_2 (tk, R l)) (n109_2 (tk, R l)) 1 = true := f.1
 rw [f2, f1]
 unfold y109_2 z109_2 xc109_2_0 xc109_2_1
 dsimp only
 rcases hd with ⟨h1, h2⟩ | ⟨h1, h2, h3⟩
 ·rw [R_len, decide_eq_false (show ¬ (r : Int) < (l.length : Int) by omega), isH_iff.2 h2]
  exact ⟨rfl, rfl⟩
 ·have hp : (r - 1) / 2 < l.length := by omega
  obtain ⟨v0, v1⟩ := v29 tk h2 hp
  have hn : isH l = false := isH_not.2 fun hh => by have := hh r h1 h2; unfold okAt at this; rw [h3] at this; cases this
  rw [R_len, decide_eq_true (show (r : Int) < (l.length : Int) by omega), e r h1 (by omega), v0, v1, h3, hn]
  exact ⟨rfl, rfl⟩
end Go.Proofs.Gv
namespace Go.Proofs.Gv
open Go.Proofs
open List (Perm)
theorem of7 (tk : Tk) {l : List It} (hl : l.length ≤ 100000) : vev110_0 tk (R l) = R (ofH l) ∧ vev110_1 tk (R l) = true := by
 have key : ∀ (n : Nat) (l : List It), l.length ≤ 100000 → n ≤ l.length / 2 → (∀ k, 0 < k → k < l.length → n ≤ (k - 1) / 2 → okAt l k) → Ends (g110_3 ()) (n110_3 ()) ((n : Int) - 1, R l) ((-1 : Int), R (heapify n l)) := by
  intro n
  induction n with
  | zero => intro l _ _ _; exact Ends.stop rfl
  | succ n ih =>
    intro l hl hn hok
    obtain ⟨r, j, he, hp, hh⟩ := down_ends n (l.length - n) l n rfl (by omega) (Nat.le_refl _) ⟨fun k hk hkl h1 h2 _ => hok k hk hkl (by omega), fun c _ _ _ h0 h1 => by omega⟩ (fun h0 h1 => by omega)
    obtain ⟨d0, d1⟩ := down25 (l := l) (i := n) (by omega) (by omega) he
    have e0 : (((n + 1 : Nat) : Int) - 1) = (n : Int) := by omega
    have go : g110_3 () (((n + 1 : Nat) : Int) - 1, R l) = true := by
     unfold g110_3 go110_3
     dsimp only
     rw [e0, d1, decide_eq_true (show (n : Int) ≥ 0 by omega)]
     rfl
    have nx : n110_3 () (((n + 1 : Nat) : Int) - 1, R l) = ((n : Int) - 1, R r) := by
     unfold n110_3 nx110_3_0
     dsimp only
     rw [e0, d0, wrapOf _ (by omega) (by omega)]
    refine Ends.step go ?_
    rw [nx]
    simp only [heapify, downR_of he]
    exact ih r (by rw [hp.length_eq]; exact hl) (by rw [hp.length_eq]; omega) hh
 have hs : IntKind.i64.wrap (IntKind.i64.wrap (((R l).length : Int).tdiv 2) - 1) = ((l.length / 2 : Nat) : Int) - 1 := by
  rw [R_len, Int.tdiv_eq_ediv_of_nonneg (by omega), wrapOf ((l.length : Int) / 2) (by omega) (by omega), wrapOf _ (by omega) (by omega)]
  omega
 have f := (key (l.length / 2) l hl (Nat.le_refl _) (fun k hk hkl h => by omega)).fin
 have hb : ((R l).length * 16).ble 140737488355328 = true := by rw [R_len]; exact Nat.ble_eq_true_of_le (by omega)
 unfold vev110_0 vev110_1 rev110_0
 simp only [spI]
 rw [hs, f.2, f.1, hb]
 exact ⟨rfl, rfl⟩
theorem own30 (tk : Tk) {l : List It} (hl : l.length ≤ 100000) : vev86_0 tk (R l) = R (ownH l) ∧ vev86_1 tk (R l) = true := by
 obtain ⟨c0, c1⟩ := chk13 tk (l := l) (by omega)
 obtain ⟨o0, o1⟩ := of7 tk hl
 have hb : ((R l).length * 16).ble 140737488355328 = true := by rw [R_len]; exact Nat.ble_eq_true_of_le (by omega)
 unfold vev86_0 vev86_1 ownH
 rw [c0, c1, o0, o1, hb]
 cases isH l <;> exact ⟨rfl, rfl⟩
theorem ownH_len (l : List It) : (ownH l).length = l.length := (ownH_spec l).1.length_eq
theorem push17 (tk : Tk) {l : List It} (hl : l.length ≤ 90000) (x : It) : vev50_0 tk (R l) x.1 x.2 = R (pushH l x) ∧ vev50_1 tk (R l) x.1 x.2 = true := by
 obtain ⟨o0, o1⟩ := own30 tk (l := l) (by omega)
 have ho := ownH_len l
 obtain ⟨r, j, he, hp, hh⟩ := pushH_ends l x
 have e1 : rev50_1 tk (R l) x.1 x.2 = R (ownH l ++ [x]) := by unfold rev50_1 rev50_0; rw [o0, R_app]; rfl
 have e2 : rev50_2 tk (R l) x.1 x.2 = ((ownH l).length : Int) := by
  unfold rev50_2
  rw [e1, R_len, List.length_append, List.length_singleton, wrapOf _ (by omega) (by omega)]
  omega
 obtain ⟨u0, u1⟩ := up31 (l := ownH l ++ [x]) (i := (ownH l).length) (by simp) (by rw [List.length_append, List.length_singleton]; omega) he
 unfold vev50_0 vev50_1
 rw [e1, e2, u0, u1, o0, o1, R_len, show (rev50_0 tk (R l) x.1 x.2).length = 1 from rfl, decide_eq_true (show ((ownH l).length + 1) * 16 ≤ 140737488355328 by omega), decide_eq_true (show (ownH l).length + 1 ≤ 9223372036854775807 by omega)]
 refine ⟨?_, rfl⟩
 unfold pushH
 rw [upR_of he]
theorem over_rI (x y : It) : over (fitRow [Kd.int IntKind.i64, Kd.int IntKind.i64] (rI x)) 0 (List.take 2 (List.drop 0 (fitRow [Kd.int IntKind.i64, Kd.int IntKind.i64] (rI y)))) = rI y := rfl
theorem move_eq (l : List It) (h : 0 < l.length) (i : Nat) (hi : i < l.length) : ∃ z : It, l.set i (at' l (l.length - 1)) = moveL l i ++ [z] := by
 refine ⟨at' (l.set i (at' l (l.length - 1))) (l.length - 1), ?_⟩
 unfold moveL
 have e : (l.set i (at' l (l.length - 1))).length = l.length := List.length_set
 refine List.ext_getElem (by rw [List.length_append, List.length_take, e, List.length_singleton]; omega) fun k hk hk' => ?_
 rw [e] at hk
 by_cases ek : k < l.length - 1
 ·rw [List.getElem_append_left (by rw [List.length_take, e]; omega), List.getElem_take]
 ·have : k = l.length - 1 := by omega
  subst this
  rw [List.getElem_append_right (by rw [List.length_take, e]; omega)]
  simp only [List.length_take, e, List.getElem_singleton]
  exact (at_lt (by rw [e]; omega)).symm
theorem cut32 {h : List It} {i : Nat} (hh : HeapL h) (hi : i < h.length) (hl : h.length ≤ 100000) : List.take (rev99_0 (R h) (i : Int)).toNat (List.drop 0 (vev99_0 (R h) (i : Int))) = R (cutH h i) ∧ vev99_1 (R h) (i : Int) = true := by
 have e0 : rev99_0 (R h) (i : Int) = ((h.length - 1 : Nat) : Int) := by
  unfold rev99_0
  rw [R_len, wrapOf _ (by omega) (by omega)]
  omega
 have hz : h.length - 1 < h.length := by omega
 have e1 : rev99_1 (R h) (i : Int) = R (h.set i (at' h (h.length - 1))) := by
  unfold rev99_1
  rw [e0, Int.toNat_natCast, Int.toNat_natCast, R_get hi, R_get hz, over_rI, R_set]
 obtain ⟨z, hm⟩ := move_eq h (by omega) i hi
 have hml := moveL_len h i
 have e2 : rev99_2 (R h) (i : Int) = (h.length : Int) := by unfold rev99_2; rw [e1, R_len, List.length_set]
 have e1' : rev99_1 (R h) (i : Int) = R (moveL h i) ++ R [z] := by rw [e1, hm, R_app]
 have el : (rev99_1 (R h) (i : Int)).length = h.length := by rw [e1, R_len, List.length_set]
 have c1 : decide ((0 : Int) ≤ ((h.length - 1 : Nat) : Int)) = true := decide_eq_true (by omega)
 have c2 : decide (((h.length - 1 : Nat) : Int) < (h.length : Int)) = true := decide_eq_true (by omega)
 have c3 : decide ((0 : Int) ≤ (i : Int)) = true := decide_eq_true (by omega)
 have c4 : decide ((i : Int) < (h.length : Int)) = true := decide_eq_true (by omega)
 have c5 : decide (((h.length - 1 : Nat) : Int) ≤ (h.length : Int)) = true := decide_eq_true (by omega)
 have c0 : decide ((0 : Int) ≤ 0) = true := rfl
 unfold vev99_0 vev99_1
 by_cases hq : i < h.length - 1
 ·obtain ⟨r, j, he, r', j', he', hp, hH⟩ := fix_spec (l := moveL h i) (by rw [hml]; exact hq) (cut_inv hh (by omega))
  obtain ⟨d0, d1⟩ := down25s (l := moveL h i) (i := i) (R [z]) h.length (by rw [hml]; exact hq) (by omega) he
  have hrl : r.length = h.length - 1 := by
   have h1 := (down_up (moveL h i) i (by rw [hml]; exact hq) (cut_inv hh (by omega)))
   obtain ⟨r2, j2, he2, hp2, _⟩ := h1
   have := he.det he2
   injection this with e3 _
   rw [e3, hp2.length_eq, hml]
  obtain ⟨u0, u1⟩ := up31s (l := r) (i := i) (R [z]) h.length (by rw [hrl]; exact hq) (by omega) he'
  have e3 : rev99_3 (R h) (i : Int) = R r ++ R [z] := by
   unfold rev99_3
   rw [e1', e0, Int.toNat_natCast, List.length_append, R_len, R_len, hml, List.length_singleton, show h.length - 1 + 1 = h.length by omega]
   rw [hml] at d0
   exact d0
  rw [hml] at d1
  rw [hrl] at u0 u1
  have hr' : r'.length = h.length - 1 := by rw [hp.length_eq, hml]
  rw [e3, e1', e0, e2, R_len, Int.toNat_natCast, List.length_append, R_len, R_len, hml, List.length_singleton, show h.length - 1 + 1 = h.length by omega, u0, u1, d1, decide_eq_true (show (i : Int) < ((h.length - 1 : Nat) : Int) by omega), c1, c2, c3, c4, c5, c0, cond_true]
  refine ⟨?_, rfl⟩
  rw [← hr', RX_take]
  unfold cutH fixR
  rw [decide_eq_true hq, cond_true, downR_of he, upR_of he']
 ·have ez : [AV.int IntKind.i64 (intOf (((R h).getD ((h.length - 1 : Nat) : Int).toNat []).getD 0 AV.junk)), AV.int IntKind.i64 (intOf (((R h).getD ((h.length - 1 : Nat) : Int).toNat []).getD (0 + 1) AV.junk))] = rI (at' h (h.length - 1)) := by
   rw [Int.toNat_natCast, R_get hz]
   rfl
  rw [e0, e2, R_len, ez, Int.toNat_natCast, Int.toNat_natCast, R_set, decide_eq_false (show ¬ (i : Int) < ((h.length - 1 : Nat) : Int) by omega), c1, c2, c3, c4, c5, c0, cond_false]
  refine ⟨?_, rfl⟩
  rw [hm, R_app]
  have := RX_take (moveL h i) (R [z])
  rw [hml] at this
  rw [this]
  unfold cutH
  rw [decide_eq_false hq, cond_false]
theorem pop18 (tk : Tk) {l : List It} (hl : l.length ≤ 100000) : vev66_3 tk (R l) = decide (0 < l.length) ∧ vev66_4 tk (R l) = true ∧ vev66_0 tk (R l) = R (bif decide (0 < l.length) then cutH (ownH l) 0 else []) ∧ (0 < l.length → vev66_1 tk (R l) = (at' (ownH l) 0).1 ∧ vev66_2 tk (R l) = (at' (ownH l) 0).2) := by
 obtain ⟨o0, o1⟩ := own30 tk hl
 have ho := ownH_len l
 unfold vev66_0 vev66_1 vev66_2 vev66_3 vev66_4 rev66_0
 rw [R_len]
 by_cases h0 : 0 < l.length
 ·have hne : ((l.length : Int) == 0) = false := beq_eq_false_iff_ne.2 (by omega)
  have hi : 0 < (ownH l).length := by omega
  obtain ⟨c0, c1⟩ := cut32 (ownH_spec l).2 hi (by omega)
  rw [hne, decide_eq_true h0, o0, o1, R_len, decide_eq_true (show (0 : Int) < ((ownH l).length : Int) by omega)]
  have c0' : List.take (rev99_0 (R (ownH l)) 0).toNat (List.drop 0 (vev99_0 (R (ownH l)) 0)) = R (cutH (ownH l) 0) := c0
  have c1' : vev99_1 (R (ownH l)) 0 = true := c1
  rw [c1']
  refine ⟨rfl, rfl, c0', fun _ => ?_⟩
  rw [show Int.toNat 0 = 0 from rfl, R_key hi, R_id hi]
  exact ⟨rfl, rfl⟩
 ·have hz : l.length = 0 := by omega
  rw [hz]
  exact ⟨rfl, rfl, rfl, fun h => by omega⟩
end Go.Proofs.Gv
namespace Go.Proofs.Gv
open Go.Proofs
structure Fl where
 c : Int
 w : Int
 s : Int
 f : Int
 k : Int
 l : Int
 rs : List (List AV)
instance : Inhabited Fl := ⟨⟨0, 0, 0, 0, 0, 0, []⟩⟩
def Fl.row (x : Fl) : List AV := [.int .i64 x.c, .int .i64 x.w, .int .i64 x.s, .int .i64 x.f, .int .i64 x.k, .int .i64 x.l, .sl .imm [.int .i64, .int .i64, .int .i64, .int .i64] x.rs]
def Fl.tab (x : Fl) : List AV := .int .i64 x.c :: x.row
def Fl.ord (x : Fl) : List AV := [.int .i64 x.c]
def rowsF (fs : List Fl) : List (List AV) := fs.map Fl.row
def tabsF (fs : List Fl) : List (List AV) := fs.map Fl.tab
def ordsF (fs : List Fl) : List (List AV) := fs.map Fl.ord
theorem tabsF_len (fs : List Fl) : (tabsF fs).length = fs.length := List.length_map _
theorem ordsF_len (fs : List Fl) : (ordsF fs).length = fs.length := List.length_map _
def atF (fs : List Fl) (i : Nat) : Fl := fs.getD i default
theorem atF_get {fs : List Fl} {i : Nat} (h : i < fs.length) : fs[i]? = some (atF fs i) := by
 unfold atF
 rw [List.getD_eq_getElem?_getD, List.getElem?_eq_getElem h]
 rfl
theorem atF_mem {fs : List Fl} {i : Nat} (h : i < fs.length) : atF fs i ∈ fs := List.mem_of_getElem? (atF_get h)
theorem mem_atF {fs : List Fl} {x : Fl} (h : x ∈ fs) : ∃ i, i < fs.length ∧ atF fs i = x := by
 obtain ⟨i, hi, e⟩ := List.mem_iff_getElem.1 h
 refine ⟨i, hi, ?_⟩
 have := atF_get hi
 rw [List.getElem?_eq_getElem hi] at this
 injection this with this
 rw [← this, e]
theorem ordsF_get {fs : List Fl} {i : Nat} (h : i < fs.length) : (ordsF fs).getD i [] = (atF fs i).ord := by
 unfold ordsF
 rw [List.getD_eq_getElem?_getD, List.getElem?_map, atF_get h]
 rfl
theorem atF_set {fs : List Fl} {i j : Nat} {x : Fl} : atF (fs.set i x) j = if j = i ∧ i < fs.length then x else atF fs j := by
 unfold atF
 rw [List.getD_eq_getElem?_getD, List.getD_eq_getElem?_getD, List.getElem?_set]
 by_cases e : i = j
 ·subst e
  by_cases h : i < fs.length
  ·simp [h]
  ·simp [h]
 ·rw [if_neg e, if_neg (fun h => e h.1.symm)]
def OneF (fs : List Fl) : Prop := ∀ i j, i < fs.length → j < fs.length → (atF fs j).c = (atF fs i).c → j = i
theorem keyA_tab (x : Fl) : keyA x.tab = x.c := rfl
theorem tabsF_has {fs : List Fl} {c : Int} : hasK (tabsF fs) c = true ↔ ∃ i, i < fs.length ∧ (atF fs i).c = c := by
 unfold hasK tabsF
 rw [List.any_eq_true]
 constructor
 ·rintro ⟨e, he, h⟩
  obtain ⟨x, hx, rfl⟩ := List.mem_map.1 he
  obtain ⟨i, hi, rfl⟩ := mem_atF hx
  exact ⟨i, hi, by simpa [keyA_tab] using h⟩
 ·rintro ⟨i, hi, h⟩
  exact ⟨_, List.mem_map.2 ⟨_, atF_mem hi, rfl⟩, by rw [keyA_tab, h]; simp⟩
theorem tabsF_hasAt {fs : List Fl} {i : Nat} (h : i < fs.length) : hasK (tabsF fs) (atF fs i).c = true := tabsF_has.2 ⟨i, h, rfl⟩
theorem tabsF_hasNo {fs : List Fl} {c : Int} (h : ∀ i, i < fs.length → (atF fs i).c ≠ c) : hasK (tabsF fs) c = false := by
 cases hk : hasK (tabsF fs) c with
 | false => rfl
 | true =>
   obtain ⟨i, hi, e⟩ := tabsF_has.1 hk
   exact absurd e (h i hi)
theorem tabsF_get {fs : List Fl} (h1 : OneF fs) {i : Nat} (h : i < fs.length) : getK (tabsF fs) (atF fs i).c = (atF fs i).tab := by
 have key : (tabsF fs).find? (fun e => keyA e == (atF fs i).c) = some (atF fs i).tab := by
  rw [List.find?_eq_some_iff_getElem]
  refine ⟨by rw [keyA_tab]; simp, i, by rw [tabsF_len]; exact h, ?_, fun j hj => ?_⟩
  ·have := atF_get h
   simp only [tabsF, List.getElem_map]
   rw [List.getElem?_eq_getElem h] at this
   injection this with this
   rw [this]
  ·have hjl : j < fs.length := by omega
   have := atF_get hjl
   simp only [tabsF, List.getElem_map]
   rw [List.getElem?_eq_getElem hjl] at this
   injection this with this
   rw [this, keyA_tab]
   simp only [Bool.not_eq_true', beq_eq_false_iff_ne]
   intro e
   have := h1 i j h hjl e
   omega
 unfold getK
 rw [key]
 rfl
theorem tabsF_set {fs : List Fl} (h1 : OneF fs) {i : Nat} (h : i < fs.length) {c : Int} (hc : c = (atF fs i).c) (x : Fl) {r : List AV} (hr : r = x.tab) : setK (tabsF fs) c r = tabsF (fs.set i x) := by
 subst hc hr
 apply List.ext_getElem?
 intro j
 unfold setK tabsF
 rw [List.getElem?_map, List.getElem?_map, List.getElem?_map, List.getElem?_set]
 by_cases hj : j < fs.length
 ·rw [atF_get hj]
  by_cases e : i = j
  ·subst e
   simp [h, keyA_tab]
  ·have hne : (atF fs j).c ≠ (atF fs i).c := fun hh => e (h1 i j h hj hh).symm
   simp only [e, if_false, Option.map_some, keyA_tab, show ((atF fs j).c == (atF fs i).c) = false from by simpa using hne, cond_false]
 ·have hn : fs[j]? = none := List.getElem?_eq_none (by omega)
  have e : i ≠ j := by omega
  simp [hn, e]
def wsQ (es : List (List AV)) : Nat → Int
 | 0 => 0
 | i + 1 => wsQ es i + q2 es i
def lfQ (es : List (List AV)) : Int := wsQ es es.length
def blN (fs : List Fl) : Nat → Int
 | 0 => 0
 | i + 1 => blN fs i + lfQ (atF fs i).rs
def blF (fs : List Fl) : Int := blN fs fs.length
theorem Good.q2b {l : Int} {es : List (List AV)} (g : Good l es) {i : Nat} (h : i < es.length) : 1 ≤ q2 es i ∧ q2 es i ≤ 1099511627776 := (fits.1 (g.fit i h)).2.2.1
theorem wsQ_b {l : Int} {es : List (List AV)} (g : Good l es) : ∀ i, i ≤ es.length → (i : Int) ≤ wsQ es i ∧ wsQ es i ≤ i * 1099511627776 ∧ sm es i = wsQ es i := by
 intro i
 induction i with
 | zero => intro _; exact ⟨by simp [wsQ], by simp [wsQ], rfl⟩
 | succ i ih =>
   intro h
   obtain ⟨h1, h2, h3⟩ := ih (by omega)
   have hb := g.q2b (show i < es.length by omega)
   have hl := g.len
   have e : wsQ es (i + 1) = wsQ es i + q2 es i := rfl
   refine ⟨by rw [e]; omega, by rw [e]; omega, ?_⟩
   show IntKind.i64.wrap (sm es i + q2 es i) = _
   rw [h3, wrapOf _ (by omega) (by omega)]
   rfl
theorem lfQ_b {l : Int} {es : List (List AV)} (g : Good l es) : (es.length : Int) ≤ lfQ es ∧ lfQ es ≤ 17592186044416 := by
 have := wsQ_b g es.length (Nat.le_refl _)
 have := g.len
 unfold lfQ
 omega
theorem left74 {l : Int} {tk : Tk} {es : List (List AV)} (g : Good l es) : vev74_0 l tk es = lfQ es ∧ vev74_1 l tk es = true := by
 have hN : es.length ≤ 1000 := by have := g.len; omega
 refine ⟨?_, (r22 hN).2⟩
 rw [(r22 hN).1]
 unfold lft
 rw [good_chk g]
 exact (wsQ_b g es.length (Nat.le_refl _)).2.2
theorem left91 {l : Int} {tk : Tk} {es : List (List AV)} (g : Good l es) : vev91_0 l tk es = lfQ es ∧ vev91_1 l tk es = true := by
 have hN : es.length ≤ 1000 := by have := g.len; omega
 refine ⟨?_, (r23 hN).2⟩
 rw [(r23 hN).1]
 unfold lft
 rw [good_chk g]
 exact (wsQ_b g es.length (Nat.le_refl _)).2.2
end Go.Proofs.Gv
namespace Go.Proofs.Gv
open Go.Proofs
def RowQ (es : List (List AV)) : Prop := ∀ i, i < es.length → es.getD i [] = [.int .i64 (q0 es i), .int .i64 (q1 es i), .int .i64 (q2 es i), .int .i64 (q3 es i)]
structure Sc where
 q : Int
 lim : Int
 t : Int
 k : Int
 fs : List Fl
 h : List It
def busyF (fs : List Fl) : List It := (fs.filter fun x => decide (0 < x.rs.length)).map fun x => (x.s, x.c)
structure FlOK (lim k : Int) (x : Fl) : Prop where
 c : 0 ≤ x.c ∧ x.c ≤ 2147483647
 w : 1 ≤ x.w ∧ x.w ≤ 16
 s : 0 ≤ x.s ∧ x.s ≤ k * 720720
 f : 0 ≤ x.f ∧ x.f ≤ k * 720720
 k : 0 ≤ x.k ∧ x.k ≤ k
 l : x.l = lim
 g : Good lim x.rs
 r : RowQ x.rs
structure Inv (S : Sc) : Prop where
 q : 1 ≤ S.q ∧ S.q ≤ 1000
 lim : 1 ≤ S.lim ∧ S.lim ≤ 1000
 len : S.fs.length ≤ 8
 one : OneF S.fs
 fl : ∀ i, i < S.fs.length → FlOK S.lim S.k (atF S.fs i)
 t : 0 ≤ S.t ∧ S.t ≤ S.k * 720720
 k : 0 ≤ S.k ∧ S.k + blF S.fs ≤ 1099511627776
 hp : HeapL S.h
 pm : List.Perm S.h (busyF S.fs)
structure Lk (L : List (List AV)) (fs : List Fl) : Prop where
 len : L.length = fs.length
 at' : ∀ i, i < fs.length → ∃ z, L.getD i [] = [.int .i64 (atF fs i).c, .int .i64 (atF fs i).w, .int .i64 (atF fs i).s, .int .i64 (atF fs i).f, .int .i64 (atF fs i).k, .int .i64 (atF fs i).l, z] ∧ elsO z = (atF fs i).rs
theorem Lk.cells {L : List (List AV)} {fs : List Fl} (h : Lk L fs) {i : Nat} (hi : i < fs.length) : intOf ((L.getD (i : Int).toNat []).getD 0 .junk) = (atF fs i).c ∧ intOf ((L.getD (i : Int).toNat []).getD (0 + 1) .junk) = (atF fs i).w ∧ intOf ((L.getD (i : Int).toNat []).getD (0 + 1 + 1) .junk) = (atF fs i).s ∧
  intOf ((L.getD (i : Int).toNat []).getD (0 + 1 + 1 + 1) .junk) = (atF fs i).f ∧ intOf ((L.getD (i : Int).toNat []).getD (0 + 1 + 1 + 1 + 1) .junk) = (atF fs i).k ∧ intOf ((L.getD (i : Int).toNat []).getD (0 + 1 + 1 + 1 + 1 + 1) .junk) = (atF fs i).l ∧ elsO ((L.getD (i : Int).toNat []).getD (0 + 1 + 1 + 1 + 1 + 1 + 1) .junk) = (atF fs i).rs := by
 obtain ⟨z, h1, h2⟩ := h.at' i hi
 rw [Int.toNat_natCast, h1]
 exact ⟨rfl, rfl, rfl, rfl, rfl, rfl, h2⟩
def gdF (lim : Int) (fs : List Fl) : Prop := ∀ i, i < fs.length → (atF fs i).l = lim ∧ Good lim (atF fs i).rs ∧ RowQ (atF fs i).rs
theorem Inv.gd {S : Sc} (I : Inv S) : gdF S.lim S.fs := fun i hi => ⟨(I.fl i hi).l, (I.fl i hi).g, (I.fl i hi).r⟩
theorem blN_b {lim : Int} {fs : List Fl} (g : gdF lim fs) : ∀ i, i ≤ fs.length → 0 ≤ blN fs i ∧ blN fs i ≤ i * 17592186044416 := by
 intro i
 induction i with
 | zero => intro _; exact ⟨by simp [blN], by simp [blN]⟩
 | succ i ih =>
   intro h
   obtain ⟨h1, h2⟩ := ih (by omega)
   have hb := lfQ_b (g i (by omega)).2.1
   have e : blN fs (i + 1) = blN fs i + lfQ (atF fs i).rs := rfl
   rw [e]
   omega
theorem nxt8 (i N : Nat) (h : i < N) (hN : N ≤ 8) : IntKind.i64.wrap ((i : Int) + 1) = ((i + 1 : Nat) : Int) := by
 rw [wrapOf _ (by omega) (by omega)]; omega
section
variable {q lim t k : Int} {fs : List Fl} {rd : List (List AV)}
theorem ord_c {i : Nat} (h : i < fs.length) : intOf (((ordsF fs).getD (i : Int).toNat []).getD 0 AV.junk) = (atF fs i).c := by
 rw [Int.toNat_natCast, ordsF_get h]; rfl
theorem ends34 (h8 : fs.length ≤ 8) (h1 : OneF fs) (g : gdF lim fs) : Ends (g34_5 ((fs.length : Int), q, lim, rd, t, k, ordsF fs, tabsF fs)) (n34_5 ((fs.length : Int), q, lim, rd, t, k, ordsF fs, tabsF fs)) ((0 : Int), (0 : Int)) (blF fs, (fs.length : Int)) := by
 refine Ends.count (go := g34_5 ((fs.length : Int), q, lim, rd, t, k, ordsF fs, tabsF fs)) (next := n34_5 ((fs.length : Int), q, lim, rd, t, k, ordsF fs, tabsF fs)) fs.length (fun i => (blN fs i, (i : Int))) (fun i hi => ?_) ?_
 ·have e0 : rn34_5_0 (blN fs i) (fs.length : Int) (i : Int) q lim rd t k (ordsF fs) (tabsF fs) = (atF fs i).c := ord_c hi
  have e1 : rn34_5_1 (blN fs i) (fs.length : Int) (i : Int) q lim rd t k (ordsF fs) (tabsF fs) = lim := by
   unfold rn34_5_1
   rw [e0, tabsF_get h1 hi]
   exact (g i hi).1
  have e2 : rn34_5_2 (blN fs i) (fs.length : Int) (i : Int) q lim rd t k (ordsF fs) (tabsF fs) = (atF fs i).rs := by
   unfold rn34_5_2
   rw [e0, tabsF_get h1 hi]
   rfl
  have hl := left74 (tk := .imm) (g i hi).2.1
  have hb := blN_b g i (by omega)
  have hb2 := lfQ_b (g i hi).2.1
  constructor
  ·show go34_5 (blN fs i) (fs.length : Int) (i : Int) q lim rd t k (ordsF fs) (tabsF fs) = true
   unfold go34_5
   rw [e0, e1, e2, decide_eq_true (show (i : Int) < (fs.length : Int) by omega), ordsF_len, in2 hi, tabsF_hasAt hi, hl.2]
   rfl
  ·show (nx34_5_0 (blN fs i) (fs.length : Int) (i : Int) q lim rd t k (ordsF fs) (tabsF fs), nx34_5_2 (blN fs i) (fs.length : Int) (i : Int) q lim rd t k (ordsF fs) (tabsF fs)) = _
   unfold nx34_5_0 nx34_5_2
   rw [e1, e2, hl.1, nxt8 i _ hi h8, wrapOf _ (by omega) (by omega)]
   rfl
 ·show go34_5 (blN fs fs.length) (fs.length : Int) (fs.length : Int) q lim rd t k (ordsF fs) (tabsF fs) = false
  unfold go34_5
  rw [decide_eq_false (by omega)]
  rfl
theorem bl34 (h8 : fs.length ≤ 8) (h1 : OneF fs) (g : gdF lim fs) : vev34_0 q lim t k (ordsF fs) (tabsF fs) rd = blF fs ∧ vev34_1 q lim t k (ordsF fs) (tabsF fs) rd = true := by
 have h := (ends34 (q := q) (t := t) (k := k) (rd := rd) h8 h1 g).fin
 unfold vev34_0 vev34_1 rev34_0
 simp only [spI]
 rw [ordsF_len, h.2, h.1]
 unfold z34_5 xc34_5_0
 dsimp only
 rw [decide_eq_false (show ¬ (fs.length : Int) < (fs.length : Int) by omega)]
 exact ⟨rfl, rfl⟩
/- the document's side -/
variable {q2 t2 k2 : Int} {tk tk2 : Tk} {L : List (List AV)}
theorem ends46 (hL : Lk L fs) (h8 : fs.length ≤ 8) (c : Int) : Ends (g46_2 (c, q, lim, tk, L, t, k)) (n46_2 (c, q, lim, tk, L, t, k)) (0 : Int) ((ff (fun i => (atF fs i).c == c) fs.length : Nat) : Int) := by
 refine Ends.first (fun i => (atF fs i).c == c) fs.length (fun i hi => ?_) (fun i hi => ?_)
 ·show go46_2 c (i : Int) q lim tk (L) t k = _
  unfold go46_2
  rw [hL.len]
  by_cases hl : i < fs.length
  ·rw [in2 hl, decide_eq_true (show (i : Int) < (fs.length : Int) by omega), (hL.cells hl).1, decide_eq_true hl]
   show (bif true then bif true then bif (atF fs i).c == c then false else true else false else false) = _
   cases (atF fs i).c == c <;> rfl
  ·rw [decide_eq_false (show ¬ (i : Int) < (fs.length : Int) by omega), decide_eq_false hl]
   rfl
 ·show nx46_2_1 c (i : Int) q lim tk (L) t k = _
  unfold nx46_2_1
  exact nxt8 i _ hi h8
theorem pl46 (hL : Lk L fs) (h8 : fs.length ≤ 8) (c : Int) : vev46_0 q lim t k tk (L) c = ix (fun i => (atF fs i).c == c) fs.length ∧ vev46_1 q lim t k tk (L) c = true := by
 have h := (ends46 (q := q) (lim := lim) (t := t) (k := k) (tk := tk) hL h8 c).fin
 have hle := ff_le (fun i => (atF fs i).c == c) fs.length
 unfold vev46_0 vev46_1 rev46_0
 simp only [spI]
 rw [h.2, h.1]
 have x0 : xc46_2_0 c ((ff (fun i => (atF fs i).c == c) fs.length : Nat) : Int) q lim tk (L) t k = decide (ff (fun i => (atF fs i).c == c) fs.length < fs.length) := by
  unfold xc46_2_0
  rw [hL.len]
  by_cases hl : ff (fun i => (atF fs i).c == c) fs.length < fs.length
  ·rw [in2 hl, decide_eq_true (show ((ff (fun i => (atF fs i).c == c) fs.length : Nat) : Int) < (fs.length : Int) by omega), (hL.cells hl).1, decide_eq_true hl]
   have := ff_hit hl
   exact this
  ·rw [decide_eq_false (show ¬ ((ff (fun i => (atF fs i).c == c) fs.length : Nat) : Int) < (fs.length : Int) by omega), decide_eq_false hl]
   rfl
 unfold z46_2 y46_2
 dsimp only
 unfold xc46_2_1
 rw [x0, hL.len]
 unfold ix
 by_cases hl : ff (fun i => (atF fs i).c == c) fs.length < fs.length
 ·rw [decide_eq_true hl, if_pos hl]
  exact ⟨rfl, rfl⟩
 ·rw [decide_eq_false hl, if_neg hl, decide_eq_false (show ¬ ((ff (fun i => (atF fs i).c == c) fs.length : Nat) : Int) < (fs.length : Int) by omega)]
  exact ⟨rfl, rfl⟩
theorem ends52 (hL : Lk L fs) (h8 : fs.length ≤ 8) (g : gdF lim fs) : Ends (g52_3 (q2, lim, tk, L, t2, k2)) (n52_3 (q2, lim, tk, L, t2, k2)) ((0 : Int), (0 : Int)) (blF fs, (fs.length : Int)) := by
 refine Ends.count (go := g52_3 (q2, lim, tk, L, t2, k2)) (next := n52_3 (q2, lim, tk, L, t2, k2)) fs.length (fun i => (blN fs i, (i : Int))) (fun i hi => ?_) ?_
 ·have e1 : rn52_3_0 (blN fs i) (i : Int) q2 lim tk (L) t2 k2 = lim := by
   unfold rn52_3_0
   rw [(hL.cells hi).2.2.2.2.2.1]
   exact (g i hi).1
  have e2 : rn52_3_1 (blN fs i) (i : Int) q2 lim tk (L) t2 k2 = (atF fs i).rs := by
   unfold rn52_3_1
   exact (hL.cells hi).2.2.2.2.2.2
  have hl := left91 (tk := .imm) (g i hi).2.1
  have hb := blN_b g i (by omega)
  have hb2 := lfQ_b (g i hi).2.1
  constructor
  ·show go52_3 (blN fs i) (i : Int) q2 lim tk (L) t2 k2 = true
   unfold go52_3
   rw [e1, e2, hL.len, in2 hi, decide_eq_true (show (i : Int) < (fs.length : Int) by omega), hl.2]
   rfl
  ·show (nx52_3_0 (blN fs i) (i : Int) q2 lim tk (L) t2 k2, nx52_3_1 (blN fs i) (i : Int) q2 lim tk (L) t2 k2) = _
   unfold nx52_3_0 nx52_3_1
   rw [e1, e2, hl.1, nxt8 i _ hi h8, wrapOf _ (by omega) (by omega)]
   rfl
 ·show go52_3 (blN fs fs.length) (fs.length : Int) q2 lim tk (L) t2 k2 = false
  unfold go52_3
  rw [hL.len, decide_eq_false (by omega)]
  rfl
theorem bl52 (hL : Lk L fs) (h8 : fs.length ≤ 8) (g : gdF lim fs) : vev52_0 q2 lim t2 k2 tk (L) = blF fs ∧ vev52_1 q2 lim t2 k2 tk (L) = true := by
 have h := (ends52 (q2 := q2) (t2 := t2) (k2 := k2) (tk := tk) hL h8 g).fin
 unfold vev52_0 vev52_1 rev52_0
 simp only [spI]
 rw [h.2, h.1]
 unfold z52_3 xc52_3_0
 dsimp only
 rw [hL.len, decide_eq_false (show ¬ (fs.length : Int) < (fs.length : Int) by omega)]
 exact ⟨rfl, rfl⟩
end
end Go.Proofs.Gv
namespace Go.Proofs.Gv
open Go.Proofs
open List (Perm)
def blL : List Fl → Int
 | [] => 0
 | x :: l => lfQ x.rs + blL l
theorem blL_app : ∀ a b : List Fl, blL (a ++ b) = blL a + blL b := by
 intro a b
 induction a with
 | nil => simp [blL]
 | cons x a ih => simp only [List.cons_append, blL, ih]; omega
theorem blF_eq (fs : List Fl) : blF fs = blL fs := by
 have key : ∀ i, i ≤ fs.length → blN fs i = blL (fs.take i) := by
  intro i
  induction i with
  | zero => intro _; rfl
  | succ i ih =>
    intro h
    rw [take_step default (by omega), blL_app, ← ih (by omega)]
    show blN fs i + lfQ (atF fs i).rs = blN fs i + (lfQ (atF fs i).rs + 0)
    omega
 have := key fs.length (Nat.le_refl _)
 rwa [List.take_length] at this
def bz (x : Fl) : List It := if 0 < x.rs.length then [(x.s, x.c)] else []
theorem busyF_app (a b : List Fl) : busyF (a ++ b) = busyF a ++ busyF b := by unfold busyF; rw [List.filter_append, List.map_append]
theorem busyF_cons (x : Fl) (l : List Fl) : busyF (x :: l) = bz x ++ busyF l := by
 unfold busyF bz
 by_cases h : 0 < x.rs.length
 ·rw [List.filter_cons_of_pos (by simpa using h), if_pos h]; rfl
 ·rw [List.filter_cons_of_neg (by simpa using h), if_neg h]; rfl
theorem split_at {fs : List Fl} {i : Nat} (h : i < fs.length) : fs = fs.take i ++ atF fs i :: fs.drop (i + 1) := by
 have := atF_get h
 rw [List.getElem?_eq_getElem h] at this
 injection this with this
 rw [← this, ← List.drop_eq_getElem_cons h, List.take_append_drop]
theorem set_split {fs : List Fl} {i : Nat} (h : i < fs.length) (x : Fl) : fs.set i x = fs.take i ++ x :: fs.drop (i + 1) := List.set_eq_take_append_cons_drop .. |>.trans (if_pos h)
theorem blL_at {fs : List Fl} {i : Nat} (h : i < fs.length) : blL fs = blL (fs.take i) + lfQ (atF fs i).rs + blL (fs.drop (i + 1)) := by
 conv => lhs; rw [split_at h, blL_app]
 simp only [blL]
 omega
theorem blL_set {fs : List Fl} {i : Nat} (h : i < fs.length) (x : Fl) : blL (fs.set i x) = blL fs - lfQ (atF fs i).rs + lfQ x.rs := by
 rw [set_split h, blL_app, blL_at h]
 simp only [blL]
 omega
theorem busy_at {fs : List Fl} {i : Nat} (h : i < fs.length) : busyF fs = busyF (fs.take i) ++ (bz (atF fs i) ++ busyF (fs.drop (i + 1))) := by
 conv => lhs; rw [split_at h, busyF_app, busyF_cons]
theorem busy_set {fs : List Fl} {i : Nat} (h : i < fs.length) (x : Fl) : busyF (fs.set i x) = busyF (fs.take i) ++ (bz x ++ busyF (fs.drop (i + 1))) := by
 rw [set_split h, busyF_app, busyF_cons]
theorem all_at {P : Fl → Prop} {fs : List Fl} : (∀ i, i < fs.length → P (atF fs i)) ↔ ∀ x ∈ fs, P x :=
 ⟨fun h x hx => by obtain ⟨i, hi, rfl⟩ := mem_atF hx; exact h i hi, fun h i hi => h _ (atF_mem hi)⟩
theorem OneF_iff {fs : List Fl} : OneF fs ↔ (fs.map (·.c)).Nodup := by
 have hc : ∀ (i : Nat) (h : i < (fs.map (·.c)).length), (fs.map (·.c))[i] = (atF fs i).c := by
  intro i h
  have h' : i < fs.length := by simpa using h
  have := atF_get h'
  rw [List.getElem?_eq_getElem h'] at this
  injection this with this
  rw [List.getElem_map, this]
 unfold List.Nodup
 rw [List.pairwise_iff_getElem]
 constructor
 ·intro h i j hi hj hij e
  rw [hc, hc] at e
  have := h i j (by simpa using hi) (by simpa using hj) e.symm
  omega
 ·intro h i j hi hj e
  rcases Nat.lt_trichotomy i j with hlt | rfl | hlt
  ·have := h i j (by simpa using hi) (by simpa using hj) hlt
   rw [hc, hc] at this
   exact absurd e.symm this
  ·rfl
  ·have := h j i (by simpa using hj) (by simpa using hi) hlt
   rw [hc, hc] at this
   exact absurd e this
theorem OneF.set {fs : List Fl} (h : OneF fs) {i : Nat} {x : Fl} (hc : x.c = (atF fs i).c) : OneF (fs.set i x) := by
 have hcc : ∀ j, (atF (fs.set i x) j).c = (atF fs j).c := by
  intro j
  rw [atF_set]
  split
  ·rename_i e; rw [e.1, hc]
  ·rfl
 intro a b ha hb e
 rw [hcc, hcc] at e
 exact h a b (by simpa using ha) (by simpa using hb) e
theorem OneF.push {fs : List Fl} (h : OneF fs) {x : Fl} (hn : ∀ i, i < fs.length → (atF fs i).c ≠ x.c) : OneF (fs ++ [x]) := by
 rw [OneF_iff] at *
 rw [List.map_append, List.nodup_append]
 refine ⟨h, by simp, fun a ha b hb => ?_⟩
 obtain ⟨y, hy, rfl⟩ := List.mem_map.1 ha
 obtain ⟨i, hi, rfl⟩ := mem_atF hy
 simp at hb
 subst hb
 exact hn i hi
theorem FlOK.mono {lim k k' : Int} {x : Fl} (h : FlOK lim k x) (hk : k ≤ k') : FlOK lim k' x :=
 ⟨h.c, h.w, ⟨h.s.1, by have := h.s.2; omega⟩, ⟨h.f.1, by have := h.f.2; omega⟩, ⟨h.k.1, by have := h.k.2; omega⟩, h.l, h.g, h.r⟩
theorem Inv.fls {S : Sc} (I : Inv S) : ∀ x ∈ S.fs, FlOK S.lim S.k x := all_at.1 I.fl
theorem Inv.bl {S : Sc} (I : Inv S) : S.k + blL S.fs ≤ 1099511627776 := by rw [← blF_eq]; exact I.k.2
theorem Inv.set {S : Sc} (I : Inv S) {i : Nat} (hi : i < S.fs.length) {x : Fl} {t' k' : Int} {h' : List It} (hc : x.c = (atF S.fs i).c) (hk : S.k ≤ k') (hx : FlOK S.lim k' x) (ht : 0 ≤ t' ∧ t' ≤ k' * 720720)
  (hb : k' + (blL S.fs - lfQ (atF S.fs i).rs + lfQ x.rs) ≤ 1099511627776) (hh : HeapL h') (hp : Perm h' (busyF (S.fs.set i x))) : Inv ⟨S.q, S.lim, t', k', S.fs.set i x, h'⟩ := by
 refine ⟨I.q, I.lim, by simpa using I.len, I.one.set hc, ?_, ht, ⟨by have := I.k.1; show 0 ≤ k'; omega, ?_⟩, hh, hp⟩
 ·refine all_at.2 fun y hy => ?_
  rcases List.mem_or_eq_of_mem_set hy with hy | rfl
  ·exact (I.fls y hy).mono hk
  ·exact hx
 ·rw [blF_eq]
  show k' + blL (S.fs.set i x) ≤ _
  rw [blL_set hi]
  exact hb
theorem Good.nil {l : Int} (h : 1 ≤ l ∧ l ≤ 1000) : Good l [] := ⟨h, by simp, fun i hi => by simp at hi, fun i j hi => by simp at hi⟩
theorem Inv.push {S : Sc} (I : Inv S) {c n : Int} (hl : S.fs.length < 8) (hc : 0 ≤ c ∧ c ≤ 2147483647) (hn : 1 ≤ n ∧ n ≤ 16) (hno : ∀ i, i < S.fs.length → (atF S.fs i).c ≠ c) : Inv ⟨S.q, S.lim, S.t, S.k, S.fs ++ [⟨c, n, 0, 0, 0, S.lim, []⟩], S.h⟩ := by
 have hk := I.k.1
 refine ⟨I.q, I.lim, by simp; omega, I.one.push hno, ?_, I.t, ⟨hk, ?_⟩, I.hp, ?_⟩
 ·refine all_at.2 fun y hy => ?_
  rcases List.mem_append.1 hy with hy | hy
  ·exact I.fls y hy
  ·simp at hy
   subst hy
   exact ⟨hc, hn, ⟨by simp, by simp only; omega⟩, ⟨by simp, by simp only; omega⟩, ⟨by simp, hk⟩, rfl, Good.nil I.lim, fun i hi => by simp at hi⟩
 ·rw [blF_eq]
  show S.k + blL (S.fs ++ [_]) ≤ _
  rw [blL_app]
  show S.k + (blL S.fs + (0 + 0)) ≤ _
  have := I.bl
  omega
 ·show Perm S.h (busyF (S.fs ++ [_]))
  rw [busyF_app, busyF_cons]
  show Perm S.h (busyF S.fs ++ ([] ++ []))
  simpa using I.pm
theorem ix_at {fs : List Fl} (h1 : OneF fs) {i : Nat} (hi : i < fs.length) : ix (fun j => (atF fs j).c == (atF fs i).c) fs.length = (i : Int) := by
 have : ff (fun j => (atF fs j).c == (atF fs i).c) fs.length = i := ff_of (by omega) (fun _ => by simp) (fun j hj => by
  have : (atF fs j).c ≠ (atF fs i).c := fun e => by have := h1 i j hi (by omega) e; omega
  simpa using this)
 unfold ix
 rw [this, if_pos hi]
theorem ix_no {fs : List Fl} {c : Int} (h : ∀ i, i < fs.length → (atF fs i).c ≠ c) : ix (fun j => (atF fs j).c == c) fs.length = -1 := by
 have : ff (fun j => (atF fs j).c == c) fs.length = fs.length := ff_of (Nat.le_refl _) (fun h => absurd h (Nat.lt_irrefl _)) (fun j hj => by simpa using h j hj)
 unfold ix
 rw [this, if_neg (Nat.lt_irrefl _)]
/- the document's list -/
theorem Lk.push {L : List (List AV)} {fs : List Fl} (h : Lk L fs) {x : Fl} {z : AV} (hz : elsO z = x.rs) : Lk (L ++ [[.int .i64 x.c, .int .i64 x.w, .int .i64 x.s, .int .i64 x.f, .int .i64 x.k, .int .i64 x.l, z]]) (fs ++ [x]) := by
 refine ⟨by simp [h.len], fun i hi => ?_⟩
 simp only [List.length_append, List.length_singleton] at hi
 unfold atF
 rw [List.getD_eq_getElem?_getD, List.getD_eq_getElem?_getD]
 by_cases e : i < fs.length
 ·rw [List.getElem?_append_left (by rw [h.len]; exact e), List.getElem?_append_left e]
  have := h.at' i e
  unfold atF at this
  rwa [List.getD_eq_getElem?_getD, List.getD_eq_getElem?_getD] at this
 ·have : i = fs.length := by omega
  subst this
  rw [List.getElem?_append_right (by rw [h.len]; exact Nat.le_refl _), List.getElem?_append_right (Nat.le_refl _), h.len]
  simp
  exact hz
theorem Lk.drop {L : List (List AV)} {fs : List Fl} (h : Lk L fs) (n : Nat) : Lk (L.drop n) (fs.drop n) := by
 refine ⟨by simp [h.len], fun i hi => ?_⟩
 simp only [List.length_drop] at hi
 have := h.at' (n + i) (by omega)
 unfold atF at this ⊢
 rw [List.getD_eq_getElem?_getD, List.getD_eq_getElem?_getD] at *
 rwa [List.getElem?_drop, List.getElem?_drop]
theorem Lk.take {L : List (List AV)} {fs : List Fl} (h : Lk L fs) (n : Nat) : Lk (L.take n) (fs.take n) := by
 refine ⟨by simp [h.len], fun i hi => ?_⟩
 simp only [List.length_take] at hi
 have := h.at' i (by omega)
 unfold atF at this ⊢
 rw [List.getD_eq_getElem?_getD, List.getD_eq_getElem?_getD] at *
 rwa [List.getElem?_take_of_lt (by omega), List.getElem?_take_of_lt (by omega)]
theorem Lk.app {A B : List (List AV)} {fs gs : List Fl} (h : Lk A fs) (k : Lk B gs) : Lk (A ++ B) (fs ++ gs) := by
 refine ⟨by simp [h.len, k.len], fun i hi => ?_⟩
 simp only [List.length_append] at hi
 unfold atF
 rw [List.getD_eq_getElem?_getD, List.getD_eq_getElem?_getD]
 by_cases e : i < fs.length
 ·rw [List.getElem?_append_left (by rw [h.len]; exact e), List.getElem?_append_left e]
  have := h.at' i e
  unfold atF at this
  rwa [List.getD_eq_getElem?_getD, List.getD_eq_getElem?_getD] at this
 ·rw [List.getElem?_append_right (by rw [h.len]; omega), List.getElem?_append_right (by omega), h.len]
  have := k.at' (i - fs.length) (by omega)
  unfold atF at this
  rwa [List.getD_eq_getElem?_getD, List.getD_eq_getElem?_getD] at this
theorem Lk.one {x : Fl} {z : AV} (hz : elsO z = x.rs) : Lk [[.int .i64 x.c, .int .i64 x.w, .int .i64 x.s, .int .i64 x.f, .int .i64 x.k, .int .i64 x.l, z]] [x] := by
 have h : Lk [] [] := ⟨rfl, fun i hi => by simp at hi⟩
 exact h.push hz
theorem bndT {a b c : Int} (h : 0 ≤ a) (h1 : a ≤ b) (h2 : b ≤ c) : bnd a b c = true := by
 unfold bnd
 simp
 omega
section
variable {q lim t k : Int} {fs : List Fl} {L : List (List AV)}
theorem with54 (hL : Lk L fs) (h8 : fs.length ≤ 8) {i : Nat} (hi : i < fs.length) (x : Fl) : Lk (vev54_0 q lim t k L (i : Int) x.c x.w x.s x.f x.k x.l x.rs) (fs.set i x) ∧ vev54_1 q lim t k L (i : Int) x.c x.w x.s x.f x.k x.l x.rs = true := by
 have e1 : rev54_1 q lim t k L (i : Int) x.c x.w x.s x.f x.k x.l x.rs = ((i + 1 : Nat) : Int) := nxt8 i _ hi h8
 constructor
 ·unfold vev54_0 rev54_2 rev54_3
  rw [e1, Int.toNat_natCast, Int.toNat_natCast, set_split hi]
  unfold rev54_0
  have := ((hL.take i).app ((Lk.one (x := x) (z := .sl .imm [.int .i64, .int .i64, .int .i64, .int .i64] x.rs) rfl).app (hL.drop (i + 1))))
  simpa using this
 ·unfold vev54_1 rev54_2 rev54_3
  rw [e1, Int.toNat_natCast, Int.toNat_natCast, hL.len]
  have l0 : (rev54_0 q lim t k L (i : Int) x.c x.w x.s x.f x.k x.l x.rs).length = 1 := rfl
  have l1 : (List.take i L).length = i := by rw [List.length_take, hL.len]; omega
  have l2 : (List.drop (i + 1) L).length = fs.length - (i + 1) := by rw [List.length_drop, hL.len]
  rw [List.length_append, l0, l1, l2, bndT (by omega) (by omega) (by omega), bndT (by omega) (by omega) (by omega), decide_eq_true (show i * 72 ≤ 140737488355328 by omega), decide_eq_true (show i ≤ 9223372036854775807 by omega),
   decide_eq_true (show (i + 1) * 72 ≤ 140737488355328 by omega), decide_eq_true (show i + 1 ≤ 9223372036854775807 by omega), decide_eq_true (show (i + 1 + (fs.length - (i + 1))) * 72 ≤ 140737488355328 by omega), decide_eq_true (show i + 1 + (fs.length - (i + 1)) ≤ 9223372036854775807 by omega)]
  rfl
end
end Go.Proofs.Gv
namespace Go.Proofs.Gv
open Go.Proofs
open List (Perm)
def okJn (c n : Int) : Bool := decide ((1 ≤ n ∧ n ≤ 16) ∧ (0 ≤ c ∧ c ≤ 2147483647))
theorem progJ (c n : Int) : (bif vev43_1 n != (0 : Int) then true else !vev42_0 c (0 : Int) (2147483647 : Int)) = !okJn c n := by
 unfold vev43_1 vev79_0 vev42_0 okJn
 by_cases a : 0 < n <;> by_cases b : n ≤ 16 <;> by_cases c0 : 0 ≤ c <;> by_cases d : c ≤ 2147483647 <;> simp [a, b, c0, d] <;> omega
theorem docJ (c n : Int) : (bif decide (c < (0 : Int)) then true else bif decide (c > (2147483647 : Int)) then true else vev45_1 n != (0 : Int)) = !okJn c n := by
 unfold vev45_1 rev45_0 vev81_0 vev92_0 okJn
 by_cases a : 0 < n <;> by_cases b : n ≤ 16 <;> by_cases c0 : 0 ≤ c <;> by_cases d : c ≤ 2147483647 <;> simp [a, b, c0, d, show ¬ n < 1 ↔ 0 < n by omega, show n < 1 ↔ ¬ 0 < n by omega, show c < 0 ↔ ¬ 0 ≤ c by omega, show c > 2147483647 ↔ ¬ c ≤ 2147483647 by omega, show n > 16 ↔ ¬ n ≤ 16 by omega] <;> omega
theorem new43 {n : Int} (h : 1 ≤ n ∧ n ≤ 16) : vev43_0 n = n ∧ vev45_0 n = n := by
 unfold vev43_0 vev45_0 rev45_0 vev81_0 vev79_0 vev92_0
 have h1 : 0 < n := by omega
 have h2 : ¬ n < 1 := by omega
 have h3 : ¬ 16 < n := by omega
 simp [h1, h2, h3, h.2]
theorem lim44 {l : Int} (h : 1 ≤ l ∧ l ≤ 1000) : vev44_0 l = l ∧ vev44_1 l = 0 := by
 unfold vev44_0 vev44_1
 rw [(in80 l 1 1000).2 h]
 exact ⟨rfl, rfl⟩
theorem join13 {S : Sc} (I : Inv S) (c n : Int) : ∃ (e : Int) (S' : Sc), Inv S' ∧ ((e ≠ 0 ∧ S' = S) ∨ (e = 0 ∧ S' = ⟨S.q, S.lim, S.t, S.k, S.fs ++ [⟨c, n, 0, 0, 0, S.lim, []⟩], S.h⟩)) ∧
  (vev13_0 S.q S.lim S.t S.k (ordsF S.fs) (tabsF S.fs) (R S.h) c n = e ∧ vev13_1 S.q S.lim S.t S.k (ordsF S.fs) (tabsF S.fs) (R S.h) c n = ordsF S'.fs ∧ vev13_2 S.q S.lim S.t S.k (ordsF S.fs) (tabsF S.fs) (R S.h) c n = tabsF S'.fs ∧ vev13_3 S.q S.lim S.t S.k (ordsF S.fs) (tabsF S.fs) (R S.h) c n = true) ∧
  ∀ L, Lk L S.fs → Lk (vev14_0 S.q S.lim S.t S.k L c n) S'.fs ∧ vev14_1 S.q S.lim S.t S.k L c n = e ∧ vev14_2 S.q S.lim S.t S.k L c n = true := by
 have h8 := I.len
 have hl44 := lim44 I.lim
 cases hJ : okJn c n with
 | false =>
   refine ⟨8, S, I, .inl ⟨by omega, rfl⟩, ⟨?_, ?_, ?_, ?_⟩, fun L hL => ⟨?_, ?_, ?_⟩⟩
   ·unfold vev13_0; rw [progJ, hJ]; rfl
   ·unfold vev13_1; rw [progJ, hJ]; rfl
   ·unfold vev13_2; rw [progJ, hJ]; rfl
   ·unfold vev13_3; rw [progJ, hJ]; rfl
   ·unfold vev14_0; rw [docJ, hJ]; exact hL
   ·unfold vev14_1; rw [docJ, hJ]; rfl
   ·unfold vev14_2; rw [docJ, hJ]; rfl
 | true =>
   have hj : (1 ≤ n ∧ n ≤ 16) ∧ (0 ≤ c ∧ c ≤ 2147483647) := by unfold okJn at hJ; simpa using hJ
   by_cases hex : ∃ i, i < S.fs.length ∧ (atF S.fs i).c = c
   ·obtain ⟨i, hi, hc⟩ := hex
    have hK : hasK (tabsF S.fs) c = true := tabsF_has.2 ⟨i, hi, hc⟩
    refine ⟨12, S, I, .inl ⟨by omega, rfl⟩, ⟨?_, ?_, ?_, ?_⟩, fun L hL => ?_⟩
    ·unfold vev13_0; rw [progJ, hJ, hK]; rfl
    ·unfold vev13_1; rw [progJ, hJ, hK]; rfl
    ·unfold vev13_2; rw [progJ, hJ, hK]; rfl
    ·unfold vev13_3; rw [progJ, hJ, hK]; rfl
    ·have hp := pl46 (q := S.q) (lim := S.lim) (t := S.t) (k := S.k) (tk := .imm) hL h8 c
     have hx : ix (fun j => (atF S.fs j).c == c) S.fs.length = (i : Int) := by rw [← hc]; exact ix_at I.one hi
     refine ⟨?_, ?_, ?_⟩
     ·unfold vev14_0 rev14_0; rw [docJ, hJ, hp.1, hx, decide_eq_true (show (i : Int) ≥ 0 by omega)]; exact hL
     ·unfold vev14_1 rev14_0; rw [docJ, hJ, hp.1, hx, decide_eq_true (show (i : Int) ≥ 0 by omega)]; rfl
     ·unfold vev14_2 rev14_0; rw [docJ, hJ, hp.1, hp.2, hx, decide_eq_true (show (i : Int) ≥ 0 by omega)]; rfl
   ·have hno : ∀ i, i < S.fs.length → (atF S.fs i).c ≠ c := fun i hi e => hex ⟨i, hi, e⟩
    have hK : hasK (tabsF S.fs) c = false := tabsF_hasNo hno
    have hx := ix_no hno
    by_cases hf : S.fs.length < 8
    ·refine ⟨0, _, I.push hf hj.2 hj.1 hno, .inr ⟨rfl, rfl⟩, ⟨?_, ?_, ?_, ?_⟩, fun L hL => ?_⟩
     ·unfold vev13_0; rw [progJ, hJ, hK, tabsF_len, decide_eq_false (show ¬ (S.fs.length : Int) ≥ 8 by omega), hl44.2]; rfl
     ·unfold vev13_1; rw [progJ, hJ, hK, tabsF_len, decide_eq_false (show ¬ (S.fs.length : Int) ≥ 8 by omega), hl44.2]
      show ordsF S.fs ++ _ = ordsF (S.fs ++ [_])
      unfold ordsF rev13_0
      rw [List.map_append]
      rfl
     ·unfold vev13_2; rw [progJ, hJ, hK, tabsF_len, decide_eq_false (show ¬ (S.fs.length : Int) ≥ 8 by omega), hl44.2, hl44.1, (new43 hj.1).1]
      show tabsF S.fs ++ _ = tabsF (S.fs ++ [_])
      unfold tabsF
      rw [List.map_append]
      rfl
     ·unfold vev13_3; rw [progJ, hJ, hK, tabsF_len, decide_eq_false (show ¬ (S.fs.length : Int) ≥ 8 by omega), hl44.2, ordsF_len]
      have l0 : (rev13_0 S.q S.lim S.t S.k (ordsF S.fs) (tabsF S.fs) (R S.h) c n).length = 1 := rfl
      rw [l0, decide_eq_true (show (S.fs.length + 1) * 8 ≤ 140737488355328 by omega), decide_eq_true (show S.fs.length + 1 ≤ 9223372036854775807 by omega)]
      rfl
     ·have hp := pl46 (q := S.q) (lim := S.lim) (t := S.t) (k := S.k) (tk := .imm) hL h8 c
      refine ⟨?_, ?_, ?_⟩
      ·unfold vev14_0 rev14_0; rw [docJ, hJ, hp.1, hx, hL.len, decide_eq_false (show ¬ (-1 : Int) ≥ 0 by omega), decide_eq_false (show ¬ (S.fs.length : Int) ≥ 8 by omega)]
       unfold rev14_1
       rw [(new43 hj.1).2]
       exact hL.push (x := ⟨c, n, 0, 0, 0, S.lim, []⟩) (z := .nil) rfl
      ·unfold vev14_1 rev14_0; rw [docJ, hJ, hp.1, hx, hL.len, decide_eq_false (show ¬ (-1 : Int) ≥ 0 by omega), decide_eq_false (show ¬ (S.fs.length : Int) ≥ 8 by omega)]; rfl
      ·unfold vev14_2 rev14_0; rw [docJ, hJ, hp.1, hp.2, hx, hL.len, decide_eq_false (show ¬ (-1 : Int) ≥ 0 by omega), decide_eq_false (show ¬ (S.fs.length : Int) ≥ 8 by omega)]
       have l0 : (rev14_1 S.q S.lim S.t S.k L c n).length = 1 := rfl
       rw [l0, decide_eq_true (show S.fs.length * 72 ≤ 140737488355328 by omega), decide_eq_true (show S.fs.length ≤ 9223372036854775807 by omega), decide_eq_true (show (S.fs.length + 1) * 72 ≤ 140737488355328 by omega), decide_eq_true (show S.fs.length + 1 ≤ 9223372036854775807 by omega)]
       rfl
    ·refine ⟨7, S, I, .inl ⟨by omega, rfl⟩, ⟨?_, ?_, ?_, ?_⟩, fun L hL => ?_⟩
     ·unfold vev13_0; rw [progJ, hJ, hK, tabsF_len, decide_eq_true (show (S.fs.length : Int) ≥ 8 by omega)]; rfl
     ·unfold vev13_1; rw [progJ, hJ, hK, tabsF_len, decide_eq_true (show (S.fs.length : Int) ≥ 8 by omega)]; rfl
     ·unfold vev13_2; rw [progJ, hJ, hK, tabsF_len, decide_eq_true (show (S.fs.length : Int) ≥ 8 by omega)]; rfl
     ·unfold vev13_3; rw [progJ, hJ, hK, tabsF_len, decide_eq_true (show (S.fs.length : Int) ≥ 8 by omega)]; rfl
     ·have hp := pl46 (q := S.q) (lim := S.lim) (t := S.t) (k := S.k) (tk := .imm) hL h8 c
      refine ⟨?_, ?_, ?_⟩
      ·unfold vev14_0 rev14_0; rw [docJ, hJ, hp.1, hx, hL.len, decide_eq_false (show ¬ (-1 : Int) ≥ 0 by omega), decide_eq_true (show (S.fs.length : Int) ≥ 8 by omega)]; exact hL
      ·unfold vev14_1 rev14_0; rw [docJ, hJ, hp.1, hx, hL.len, decide_eq_false (show ¬ (-1 : Int) ≥ 0 by omega), decide_eq_true (show (S.fs.length : Int) ≥ 8 by omega)]; rfl
      ·unfold vev14_2 rev14_0; rw [docJ, hJ, hp.1, hp.2, hx, hL.len, decide_eq_false (show ¬ (-1 : Int) ≥ 0 by omega), decide_eq_true (show (S.fs.length : Int) ≥ 8 by omega)]; rfl
/- the heap of those that have work -/
theorem mem_busy {fs : List Fl} {y : It} (h : y ∈ busyF fs) : ∃ x ∈ fs, y = (x.s, x.c) ∧ 0 < x.rs.length := by
 unfold busyF at h
 obtain ⟨x, hx, rfl⟩ := List.mem_map.1 h
 rw [List.mem_filter] at hx
 exact ⟨x, hx.1, rfl, by simpa using hx.2⟩
theorem busy_len (fs : List Fl) : (busyF fs).length ≤ fs.length := by
 unfold busyF
 rw [List.length_map]
 exact List.length_filter_le _ _
theorem Inv.hlen {S : Sc} (I : Inv S) : S.h.length ≤ 8 := by
 have := I.pm.length_eq
 have := busy_len S.fs
 have := I.len
 omega
end Go.Proofs.Gv
namespace Go.Proofs.Gv
open Go.Proofs
open List (Perm)
def RowE (es : List (List AV)) : Prop := ∀ r ∈ es, ∃ a b c d : Int, r = [.int .i64 a, .int .i64 b, .int .i64 c, .int .i64 d]
theorem RowQ_iff {es : List (List AV)} : RowQ es ↔ RowE es := by
 constructor
 ·intro h r hr
  obtain ⟨i, hi, rfl⟩ := List.mem_iff_getElem.1 hr
  have := h i hi
  rw [List.getD_eq_getElem?_getD, List.getElem?_eq_getElem hi] at this
  exact ⟨_, _, _, _, this⟩
 ·intro h i hi
  obtain ⟨a, b, c, d, e⟩ := h _ (getD_mem hi)
  unfold q0 q1 q2 q3
  rw [e]
  rfl
theorem RowE.set {es : List (List AV)} (h : RowE es) (i : Nat) (a b c d : Int) : RowE (es.set i [.int .i64 a, .int .i64 b, .int .i64 c, .int .i64 d]) := by
 intro r hr
 rcases List.mem_or_eq_of_mem_set hr with hr | rfl
 ·exact h r hr
 ·exact ⟨a, b, c, d, rfl⟩
theorem RowE.wo {es : List (List AV)} (h : RowE es) (k : Nat) : RowE (wo es k) := by
 intro r hr
 unfold Gv.wo at hr
 rcases List.mem_append.1 hr with hr | hr
 ·exact h r (List.mem_of_mem_take hr)
 ·exact h r (List.mem_of_mem_drop hr)
theorem RowE.pu {es : List (List AV)} (h : RowE es) (a b c : Int) : RowE (pu es a b c) := by
 intro r hr
 unfold Gv.pu at hr
 rcases List.mem_append.1 hr with hr | hr
 ·exact h r hr
 ·simp at hr
  exact ⟨a, b, c, 0, hr⟩
theorem RowE.ag {es : List (List AV)} (h : RowE es) : ∀ k, RowE (ag es k) := by
 intro k
 induction k with
 | zero => exact h
 | succ k ih =>
   show RowE (st3 (Gv.ag es k) k)
   exact ih.set _ _ _ _ _
theorem RowE.sv {es : List (List AV)} (h : RowE es) (k : Nat) (q : Int) : RowE (sv es k q) := by
 have h1 : RowE (sq es k q) := (h.ag k).set _ _ _ _ _
 unfold Gv.sv
 cases decide (q2 es k - un es k q = 0) with
 | true => exact h1.wo k
 | false => exact h1
def wsL : List (List AV) → Int
 | [] => 0
 | r :: l => intOf (r.getD 2 .junk) + wsL l
theorem wsL_app : ∀ a b : List (List AV), wsL (a ++ b) = wsL a + wsL b := by
 intro a b
 induction a with
 | nil => simp [wsL]
 | cons x a ih => simp only [List.cons_append, wsL, ih]; omega
theorem wsQ_take {es : List (List AV)} : ∀ i, i ≤ es.length → wsQ es i = wsL (es.take i) := by
 intro i
 induction i with
 | zero => intro _; rfl
 | succ i ih =>
   intro h
   rw [take_step [] (by omega), wsL_app, ← ih (by omega)]
   show wsQ es i + q2 es i = wsQ es i + (q2 es i + 0)
   omega
theorem lfQ_eq (es : List (List AV)) : lfQ es = wsL es := by
 unfold lfQ
 rw [wsQ_take _ (Nat.le_refl _), List.take_length]
theorem lfQ_wo {es : List (List AV)} {k : Nat} (hk : k < es.length) : lfQ (wo es k) = lfQ es - q2 es k := by
 rw [lfQ_eq, lfQ_eq]
 unfold wo
 have e : es = es.take k ++ es.getD k [] :: es.drop (k + 1) := by
  rw [List.getD_eq_getElem?_getD, List.getElem?_eq_getElem hk]
  show es = es.take k ++ es[k] :: es.drop (k + 1)
  rw [← List.drop_eq_getElem_cons hk, List.take_append_drop]
 conv => rhs; rw [e, wsL_app]
 have eq : q2 es k = intOf ((es.getD k []).getD 2 .junk) := rfl
 rw [← e, eq, wsL_app]
 simp only [wsL]
 omega
theorem lfQ_pu (es : List (List AV)) (a b c : Int) : lfQ (pu es a b c) = lfQ es + c := by
 rw [lfQ_eq, lfQ_eq]
 unfold pu
 rw [wsL_app]
 show wsL es + (c + 0) = _
 omega
theorem wsQ_congr {es es' : List (List AV)} {k : Nat} {d : Int} (h : ∀ j, q2 es' j = if j = k then q2 es j - d else q2 es j) : ∀ n, wsQ es' n = wsQ es n - (if k < n then d else 0) := by
 intro n
 induction n with
 | zero => simp [wsQ]
 | succ n ih =>
   simp only [wsQ, ih, h]
   by_cases e : n = k
   ·subst e
    rw [if_pos rfl, if_neg (Nat.lt_irrefl _), if_pos (Nat.lt_succ_self _)]
    omega
   ·rw [if_neg e]
    by_cases h2 : k < n
    ·rw [if_pos h2, if_pos (by omega)]; omega
    ·rw [if_neg h2, if_neg (by omega)]; omega
theorem lfQ_sq {es : List (List AV)} {k : Nat} (hk : k < es.length) (q : Int) : lfQ (sq es k q) = lfQ es - un es k q := by
 unfold lfQ
 rw [sq_len, wsQ_congr (es := es) (es' := sq es k q) (k := k) (d := un es k q) (fun j => by
  rw [(q_sq (q := q) hk j).2.2.1]
  by_cases e : j = k
  ·rw [if_pos e, if_pos e, e]
  ·rw [if_neg e, if_neg e]), if_pos hk]
theorem lfQ_sv {es : List (List AV)} {k : Nat} (hk : k < es.length) (q : Int) : lfQ (sv es k q) = lfQ es - un es k q := by
 unfold sv
 by_cases h : q2 es k - un es k q = 0
 ·rw [decide_eq_true h, cond_true, lfQ_wo (by rw [sq_len]; exact hk), lfQ_sq hk, (q_sq (q := q) hk k).2.2.1, if_pos rfl]
  omega
 ·rw [decide_eq_false h, cond_false, lfQ_sq hk]
section
variable {l : Int} {es : List (List AV)} {id : Int}
theorem push_spec (g : Good l es) (id rank cost : Int) : vev47_2 l es id rank cost = true ∧ vev51_2 l es id rank cost = true ∧ vev47_1 l es id rank cost = vev51_1 l es id rank cost ∧ vev47_0 l es id rank cost = vev51_0 l es id rank cost ∧
  ((vev51_1 l es id rank cost ≠ 0) ∨ (vev51_1 l es id rank cost = 0 ∧ vev51_0 l es id rank cost = pu es id rank cost ∧ Good l (pu es id rank cost) ∧ 1 ≤ cost ∧ cost ≤ 1099511627776)) := by
 have hN : es.length ≤ 1000 := by have := g.len; omega
 have h := r10 (l := l) (id := id) (rank := rank) (cost := cost) hN
 refine ⟨h.2.2.1, h.2.2.2, h.2.1, h.1, ?_⟩
 have c := r25 (tk := .imm) (l := l) hN
 have p := r31 (tk := .imm) (l := l) (id := id) hN
 unfold vev51_1 vev51_0
 rw [c.1, p.1, good_chk g, r30]
 by_cases hf : vev84_0 id rank cost 0 = true
 ·by_cases hl : ff (fun i => q0 es i == id) es.length < es.length
  ·left
   have e : ix (fun i => q0 es i == id) es.length = (ff (fun i => q0 es i == id) es.length : Int) := if_pos hl
   rw [hf, e, decide_eq_true (show ((ff (fun i => q0 es i == id) es.length : Nat) : Int) ≥ 0 by omega)]
   simp
  ·have e : ix (fun i => q0 es i == id) es.length = -1 := if_neg hl
   rw [hf, e]
   by_cases h16 : es.length < 16
   ·right
    rw [decide_eq_false (show ¬ (es.length : Int) ≥ 16 by omega)]
    have hn : ∀ j, j < es.length → q0 es j ≠ id := fun j hj he => by
     have h1 : j < ff (fun i => q0 es i == id) es.length := by have := ff_le (fun i => q0 es i == id) es.length; omega
     have := ff_miss h1
     simp [he] at this
    exact ⟨rfl, rfl, pu_good g h16 hf hn, (fits.1 hf).2.2.1⟩
   ·left
    rw [decide_eq_true (show (es.length : Int) ≥ 16 by omega)]
    simp
 ·left
  have hf' : vev84_0 id rank cost 0 = false := by simpa using hf
  rw [hf']
  simp
end
end Go.Proofs.Gv
namespace Go.Proofs.Gv
open Go.Proofs
open List (Perm)
abbrev withQ (x : Fl) (l : Int) (rs : List (List AV)) : Fl := ⟨x.c, x.w, x.s, x.f, x.k, l, rs⟩
theorem ords_set {fs : List Fl} {i : Nat} {x : Fl} (hi : i < fs.length) (hc : x.c = (atF fs i).c) : ordsF (fs.set i x) = ordsF fs := by
 unfold ordsF
 rw [List.map_set]
 apply List.ext_getElem?
 intro j
 rw [List.getElem?_set]
 by_cases e : i = j
 ·subst e
  simp only [if_true, List.length_map, hi, List.getElem?_map]
  rw [atF_get hi]
  simp [Fl.ord, hc]
 ·rw [if_neg e]
theorem tab_at {fs : List Fl} (h1 : OneF fs) {i : Nat} (hi : i < fs.length) : ∀ j, (List.drop 1 (getK (tabsF fs) (atF fs i).c)).getD j AV.junk = ((atF fs i).row).getD j .junk := by
 intro j
 rw [tabsF_get h1 hi]
 rfl
theorem busy48 {fs : List Fl} (h1 : OneF fs) {i : Nat} (hi : i < fs.length) : vev48_0 (atF fs i).c (tabsF fs) = decide (0 < (atF fs i).rs.length) ∧ vev48_1 (atF fs i).c (tabsF fs) = true := by
 constructor
 ·unfold vev48_0 rev48_0
  rw [tab_at h1 hi]
  show decide (((atF fs i).rs.length : Int) > 0) = _
  exact decide_eq_decide.2 (by omega)
 ·unfold vev48_1
  rw [tabsF_hasAt hi]
  rfl
theorem set_at {fs : List Fl} {i : Nat} (hi : i < fs.length) (x : Fl) : atF (fs.set i x) i = x := by rw [atF_set, if_pos ⟨rfl, hi⟩]
theorem busy48s {fs : List Fl} (h1 : OneF fs) {i : Nat} (hi : i < fs.length) {x : Fl} (hc : x.c = (atF fs i).c) : vev48_0 (atF fs i).c (tabsF (fs.set i x)) = decide (0 < x.rs.length) ∧ vev48_1 (atF fs i).c (tabsF (fs.set i x)) = true := by
 have := busy48 (h1.set hc) (i := i) (by simpa using hi)
 rwa [set_at hi, hc] at this
end Go.Proofs.Gv
namespace Go.Proofs.Gv
open Go.Proofs
open List (Perm)
def mx (a b : Int) : Int := if b < a then a else b
theorem chkT {lim k : Int} {x : Fl} (f : FlOK lim k x) (hk : k ≤ 1099511627776) : vev77_0 x.w x.s x.f x.k = 0 ∧ vev81_0 x.w x.s x.f x.k = 0 := by
 have hw := f.w
 have hs := f.s
 have hf := f.f
 have hx := f.k
 constructor
 ·unfold vev77_0 vev79_0 vev78_0
  rw [decide_eq_true (show x.w > 0 by omega), decide_eq_true (show x.w ≤ 16 by omega), decide_eq_true (show 0 ≤ x.k by omega), decide_eq_true (show x.k ≤ 1099511627776 by omega), decide_eq_true (show 0 ≤ x.s by omega), decide_eq_true (show x.s ≤ 2305843009213693952 by omega), decide_eq_true (show 0 ≤ x.f by omega), decide_eq_true (show x.f ≤ 2305843009213693952 by omega)]
  rfl
 ·unfold vev81_0 vev92_0
  rw [decide_eq_false (show ¬ x.w < 1 by omega), decide_eq_false (show ¬ x.w > 16 by omega), decide_eq_true (show x.k ≥ 0 by omega), decide_eq_true (show x.k ≤ 1099511627776 by omega), decide_eq_true (show x.s ≥ 0 by omega), decide_eq_true (show x.s ≤ 2305843009213693952 by omega), decide_eq_true (show x.f ≥ 0 by omega), decide_eq_true (show x.f ≤ 2305843009213693952 by omega)]
  rfl
theorem wakeT {lim k t : Int} {x : Fl} (f : FlOK lim k x) (hk : k ≤ 1099511627776) (ht : 0 ≤ t ∧ t ≤ k * 720720) : vev49_0 t x.w x.s x.f x.k = mx t x.f ∧ vev53_0 t x.w x.s x.f x.k = mx t x.f := by
 have c := chkT f hk
 constructor
 ·unfold vev49_0 vev78_0
  rw [c.1, decide_eq_true (show 0 ≤ t by omega), decide_eq_true (show t ≤ 2305843009213693952 by omega)]
  unfold mx
  simp
 ·unfold vev53_0 vev92_0
  rw [c.2, decide_eq_true (show t ≥ 0 by omega), decide_eq_true (show t ≤ 2305843009213693952 by omega)]
  unfold mx
  simp
  split <;> split <;> omega
abbrev admF (t lim : Int) (x : Fl) (id n z : Int) : Fl := ⟨x.c, x.w, if 0 < x.rs.length then x.s else mx t x.f, x.f, x.k, lim, pu x.rs id n z⟩
theorem tab_ats {fs : List Fl} (h1 : OneF fs) {i : Nat} (hi : i < fs.length) {x : Fl} (hc : x.c = (atF fs i).c) : ∀ j, (List.drop 1 (getK (tabsF (fs.set i x)) (atF fs i).c)).getD j AV.junk = (x.row).getD j .junk := by
 intro j
 have := tab_at (h1.set hc) (i := i) (by simpa using hi) j
 rwa [set_at hi, hc] at this
theorem tabsF_hasS {fs : List Fl} {i : Nat} (hi : i < fs.length) {x : Fl} (hc : x.c = (atF fs i).c) : hasK (tabsF (fs.set i x)) (atF fs i).c = true := by
 have := tabsF_hasAt (fs := fs.set i x) (i := i) (by simpa using hi)
 rwa [set_at hi, hc] at this
theorem pu_pos (rs : List (List AV)) (id n z : Int) : 0 < (pu rs id n z).length := by rw [pu_len]; omega
theorem hasK_go (es : List (List AV)) (c : Int) : ((List.brecOn.go (motive := fun x => (List AV → Bool) → Bool) es List.any._f).1 fun e => keyA e == c) = hasK es c := by kernel_rfl
theorem admit15 {S : Sc} (I : Inv S) (c id n z : Int) : ∃ (e : Int) (S' : Sc), Inv S' ∧ ((e ≠ 0 ∧ S' = S) ∨ (e = 0 ∧ ∃ i h', i < S.fs.length ∧ (atF S.fs i).c = c ∧ 1 ≤ z ∧ z ≤ 1099511627776 ∧ S' = ⟨S.q, S.lim, S.t, S.k, S.fs.set i (admF S.t S.lim (atF S.fs i) id n z), h'⟩)) ∧
  (vev15_0 S.q S.lim S.t S.k (ordsF S.fs) (tabsF S.fs) (R S.h) c id n z = e ∧ vev15_1 S.q S.lim S.t S.k (ordsF S.fs) (tabsF S.fs) (R S.h) c id n z = R S'.h ∧ vev15_2 S.q S.lim S.t S.k (ordsF S.fs) (tabsF S.fs) (R S.h) c id n z = tabsF S'.fs ∧ ordsF S.fs = ordsF S'.fs ∧ vev15_3 S.q S.lim S.t S.k (ordsF S.fs) (tabsF S.fs) (R S.h) c id n z = true) ∧
  ∀ L, Lk L S.fs → Lk (vev16_0 S.q S.lim S.t S.k L c id n z) S'.fs ∧ vev16_1 S.q S.lim S.t S.k L c id n z = e ∧ vev16_2 S.q S.lim S.t S.k L c id n z = true := by
 have h8 := I.len
 by_cases hex : ∃ i, i < S.fs.length ∧ (atF S.fs i).c = c
 ·obtain ⟨i, hi, rfl⟩ := hex
  have hK : hasK (tabsF S.fs) (atF S.fs i).c = true := tabsF_hasAt hi
  have f := I.fl i hi
  have hx := ix_at I.one hi
  have hkb := I.k
  have hbb := blN_b I.gd S.fs.length (Nat.le_refl _)
  have hk40 : S.k ≤ 1099511627776 := by unfold blF at hkb; omega
  have wk := wakeT f hk40 I.t
  have hfb : 0 ≤ blF S.fs := hbb.1
  have e0 : rev15_0 S.q S.lim S.t S.k (ordsF S.fs) (tabsF S.fs) (R S.h) (atF S.fs i).c id n z = S.lim := by unfold rev15_0; rw [tab_at I.one hi]; exact f.l
  have e1 : rev15_1 S.q S.lim S.t S.k (ordsF S.fs) (tabsF S.fs) (R S.h) (atF S.fs i).c id n z = (atF S.fs i).rs := by unfold rev15_1; rw [tab_at I.one hi]; rfl
  have e4 : rev15_4 S.q S.lim S.t S.k (ordsF S.fs) (tabsF S.fs) (R S.h) (atF S.fs i).c id n z = (atF S.fs i).w := by unfold rev15_4; rw [tab_at I.one hi]; rfl
  have e5 : rev15_5 S.q S.lim S.t S.k (ordsF S.fs) (tabsF S.fs) (R S.h) (atF S.fs i).c id n z = (atF S.fs i).s := by unfold rev15_5; rw [tab_at I.one hi]; rfl
  have e6 : rev15_6 S.q S.lim S.t S.k (ordsF S.fs) (tabsF S.fs) (R S.h) (atF S.fs i).c id n z = (atF S.fs i).f := by unfold rev15_6; rw [tab_at I.one hi]; rfl
  have e7 : rev15_7 S.q S.lim S.t S.k (ordsF S.fs) (tabsF S.fs) (R S.h) (atF S.fs i).c id n z = (atF S.fs i).k := by unfold rev15_7; rw [tab_at I.one hi]; rfl
  obtain ⟨d1, d2, d3, d4, d5⟩ := push_spec f.g id n z
  have e2 : rev15_2 S.q S.lim S.t S.k (ordsF S.fs) (tabsF S.fs) (R S.h) (atF S.fs i).c id n z = vev51_1 S.lim (atF S.fs i).rs id n z := by unfold rev15_2; rw [e0, e1, d3]
  have b34 := bl34 (q := S.q) (t := S.t) (k := S.k) (rd := R S.h) h8 I.one I.gd
  have e3 : rev15_3 S.q S.lim S.t S.k (ordsF S.fs) (tabsF S.fs) (R S.h) (atF S.fs i).c id n z = 1099511627776 - S.k - blF S.fs := by
   unfold rev15_3
   rw [b34.1, wrapOf (1099511627776 - S.k) (by omega) (by omega), wrapOf (1099511627776 - S.k - blF S.fs) (by omega) (by omega)]
  have doc : ∀ L, Lk L S.fs → rev16_0 S.q S.lim S.t S.k L (atF S.fs i).c id n z = (i : Int) ∧ vev46_1 S.q S.lim S.t S.k .imm L (atF S.fs i).c = true ∧ rev16_1 S.q S.lim S.t S.k L (atF S.fs i).c id n z = S.lim ∧ rev16_2 S.q S.lim S.t S.k L (atF S.fs i).c id n z = (atF S.fs i).rs ∧ rev16_5 S.q S.lim S.t S.k L (atF S.fs i).c id n z = (atF S.fs i).c ∧
    rev16_6 S.q S.lim S.t S.k L (atF S.fs i).c id n z = (atF S.fs i).w ∧ rev16_7 S.q S.lim S.t S.k L (atF S.fs i).c id n z = (atF S.fs i).s ∧ rev16_8 S.q S.lim S.t S.k L (atF S.fs i).c id n z = (atF S.fs i).f ∧ rev16_9 S.q S.lim S.t S.k L (atF S.fs i).c id n z = (atF S.fs i).k ∧
    rev16_3 S.q S.lim S.t S.k L (atF S.fs i).c id n z = vev51_1 S.lim (atF S.fs i).rs id n z ∧ rev16_4 S.q S.lim S.t S.k L (atF S.fs i).c id n z = 1099511627776 - S.k - blF S.fs ∧ vev52_1 S.q S.lim S.t S.k .imm L = true := by
   intro L hL
   have hp := pl46 (q := S.q) (lim := S.lim) (t := S.t) (k := S.k) (tk := .imm) hL h8 (atF S.fs i).c
   have h0 : rev16_0 S.q S.lim S.t S.k L (atF S.fs i).c id n z = (i : Int) := by unfold rev16_0; rw [hp.1, hx]
   have hc := hL.cells hi
   have h1 : rev16_1 S.q S.lim S.t S.k L (atF S.fs i).c id n z = S.lim := by unfold rev16_1; rw [h0]; exact hc.2.2.2.2.2.1.trans f.l
   have h2 : rev16_2 S.q S.lim S.t S.k L (atF S.fs i).c id n z = (atF S.fs i).rs := by unfold rev16_2; rw [h0]; exact hc.2.2.2.2.2.2
   have b52 := bl52 (q2 := S.q) (t2 := S.t) (k2 := S.k) (tk := .imm) hL h8 I.gd
   refine ⟨h0, hp.2, h1, h2, ?_, ?_, ?_, ?_, ?_, ?_, ?_, b52.2⟩
   ·unfold rev16_5; rw [h0]; exact hc.1
   ·unfold rev16_6; rw [h0]; exact hc.2.1
   ·unfold rev16_7; rw [h0]; exact hc.2.2.1
   ·unfold rev16_8; rw [h0]; exact hc.2.2.2.1
   ·unfold rev16_9; rw [h0]; exact hc.2.2.2.2.1
   ·unfold rev16_3; rw [h1, h2]
   ·unfold rev16_4
    rw [b52.1, wrapOf (1099511627776 - S.k) (by omega) (by omega), wrapOf (1099511627776 - S.k - blF S.fs) (by omega) (by omega)]
  have hi0 : decide ((i : Int) < 0) = false := decide_eq_false (by omega)
  rcases d5 with hd | ⟨hd, hw, gd, hz1, hz2⟩
  ·have hb : (vev51_1 S.lim (atF S.fs i).rs id n z != 0) = true := bne_iff_ne.2 hd
   refine ⟨vev51_1 S.lim (atF S.fs i).rs id n z, S, I, .inl ⟨hd, rfl⟩, ⟨?_, ?_, ?_, rfl, ?_⟩, fun L hL => ?_⟩
   ·unfold vev15_0; rw [hK, e2, hb]; rfl
   ·unfold vev15_1; rw [hK, e2, hb]; rfl
   ·unfold vev15_2; rw [hK, e2, hb]; rfl
   ·unfold vev15_3; rw [hK, e2, hb, e0, e1, d1]; rfl
   ·obtain ⟨g0, g1, g2, g3, g5, g6, g7, g8, g9, g10, g11, g12⟩ := doc L hL
    refine ⟨?_, ?_, ?_⟩
    ·unfold vev16_0; rw [g0, hi0, g10, hb]; exact hL
    ·unfold vev16_1; rw [g0, hi0, g10, hb]; rfl
    ·unfold vev16_2; rw [g0, hi0, g1, hL.len, in2 hi, g2, g3, d2, g10, hb]; rfl
  ·have hb : (vev51_1 S.lim (atF S.fs i).rs id n z != 0) = false := by rw [hd]; rfl
   by_cases hbig : z > 1099511627776 - S.k - blF S.fs
   ·refine ⟨7, S, I, .inl ⟨by omega, rfl⟩, ⟨?_, ?_, ?_, rfl, ?_⟩, fun L hL => ?_⟩
    ·unfold vev15_0; rw [hK, e2, hb, e3, decide_eq_true hbig]; rfl
    ·unfold vev15_1; rw [hK, e2, hb, e3, decide_eq_true hbig]; rfl
    ·unfold vev15_2; rw [hK, e2, hb, e3, decide_eq_true hbig]; rfl
    ·unfold vev15_3; rw [hK, e2, hb, e0, e1, d1, e3, decide_eq_true hbig, b34.2]; rfl
    ·obtain ⟨g0, g1, g2, g3, g5, g6, g7, g8, g9, g10, g11, g12⟩ := doc L hL
     refine ⟨?_, ?_, ?_⟩
     ·unfold vev16_0; rw [g0, hi0, g10, hb, g11, decide_eq_true hbig]; exact hL
     ·unfold vev16_1; rw [g0, hi0, g10, hb, g11, decide_eq_true hbig]; rfl
     ·unfold vev16_2; rw [g0, hi0, g1, hL.len, in2 hi, g2, g3, d2, g10, hb, g11, decide_eq_true hbig, g12]; rfl
   ·have hB := busy48 I.one hi
    have hlf : lfQ (pu (atF S.fs i).rs id n z) = lfQ (atF S.fs i).rs + z := lfQ_pu _ _ _ _
    have hbl : S.k + (blL S.fs - lfQ (atF S.fs i).rs + lfQ (pu (atF S.fs i).rs id n z)) ≤ 1099511627776 := by
     rw [hlf, ← blF_eq]; omega
    have hmx : 0 ≤ mx S.t (atF S.fs i).f ∧ mx S.t (atF S.fs i).f ≤ S.k * 720720 := by
     have := I.t; have := f.f
     unfold mx; split <;> omega
    have hfx : FlOK S.lim S.k (admF S.t S.lim (atF S.fs i) id n z) := by
     refine ⟨f.c, f.w, ?_, f.f, f.k, rfl, gd, RowQ_iff.2 ((RowQ_iff.1 f.r).pu id n z)⟩
     show 0 ≤ (if 0 < (atF S.fs i).rs.length then (atF S.fs i).s else mx S.t (atF S.fs i).f) ∧ (if 0 < (atF S.fs i).rs.length then (atF S.fs i).s else mx S.t (atF S.fs i).f) ≤ _
     split
     ·exact f.s
     ·exact hmx
    have hpm := I.pm
    rw [busy_at hi] at hpm
    have hbz : bz (admF S.t S.lim (atF S.fs i) id n z) = [((admF S.t S.lim (atF S.fs i) id n z).s, (atF S.fs i).c)] := by
     unfold bz
     rw [if_pos (pu_pos _ _ _ _)]
    by_cases hz : 0 < (atF S.fs i).rs.length
    ·-- it had work
     have hs : (admF S.t S.lim (atF S.fs i) id n z).s = (atF S.fs i).s := if_pos hz
     have hp' : Perm S.h (busyF (S.fs.set i (admF S.t S.lim (atF S.fs i) id n z))) := by
      rw [busy_set hi, hbz, hs]
      have : bz (atF S.fs i) = [((atF S.fs i).s, (atF S.fs i).c)] := if_pos hz
      rw [this] at hpm
      exact hpm
     refine ⟨0, _, I.set hi (x := admF S.t S.lim (atF S.fs i) id n z) rfl (Int.le_refl _) hfx I.t hbl I.hp hp', .inr ⟨rfl, i, S.h, hi, rfl, hz1, hz2, rfl⟩, ⟨?_, ?_, ?_, (ords_set (x := admF S.t S.lim (atF S.fs i) id n z) hi rfl).symm, ?_⟩, fun L hL => ?_⟩
     ·unfold vev15_0; rw [hK, e2, hb, e3, decide_eq_false hbig]; rfl
     ·unfold vev15_1; rw [hK, e2, hb, e3, decide_eq_false hbig, hB.1, decide_eq_true hz]; rfl
     ·unfold vev15_2; rw [hK, e2, hb, e3, decide_eq_false hbig, hB.1, decide_eq_true hz]
      show setK _ _ _ = _
      refine tabsF_set I.one hi rfl _ ?_
      rw [e0, e1, e4, e5, e6, e7, d4, hw, tab_at I.one hi]
      show _ = [_, _, _, AV.int .i64 (admF S.t S.lim (atF S.fs i) id n z).s, _, _, _, _]
      rw [hs]
      rfl
     ·unfold vev15_3; rw [hK, e2, hb, e0, e1, d1, e3, decide_eq_false hbig, b34.2, hB.1, hB.2, decide_eq_true hz]; rfl
     ·obtain ⟨g0, g1, g2, g3, g5, g6, g7, g8, g9, g10, g11, g12⟩ := doc L hL
      have hwith := with54 (q := S.q) (lim := S.lim) (t := S.t) (k := S.k) hL h8 hi (admF S.t S.lim (atF S.fs i) id n z)
      rw [hs] at hwith
      have hln : (((atF S.fs i).rs.length : Int) == 0) = false := beq_eq_false_iff_ne.2 (by omega)
      refine ⟨?_, ?_, ?_⟩
      ·unfold vev16_0; rw [g0, hi0, g10, hb, g11, decide_eq_false hbig, g3, hln]
       unfold rev16_11
       rw [g2, g3, g5, g6, g7, g8, g9, hw]
       exact hwith.1
      ·unfold vev16_1; rw [g0, hi0, g10, hb, g11, decide_eq_false hbig]; rfl
      ·unfold vev16_2; rw [g0, hi0, g1, hL.len, in2 hi, g2, g3, d2, g10, hb, g11, decide_eq_false hbig, g12, hln]
       unfold rev16_11
       rw [g2, g3, g5, g6, g7, g8, g9, hw, hwith.2]
       rfl
    ·-- it wakes
     have hs : (admF S.t S.lim (atF S.fs i) id n z).s = mx S.t (atF S.fs i).f := if_neg hz
     have hps := pushH_spec S.h (mx S.t (atF S.fs i).f, (atF S.fs i).c)
     have hp' : Perm (pushH S.h (mx S.t (atF S.fs i).f, (atF S.fs i).c)) (busyF (S.fs.set i (admF S.t S.lim (atF S.fs i) id n z))) := by
      rw [busy_set hi, hbz, hs]
      have : bz (atF S.fs i) = [] := if_neg hz
      rw [this, List.nil_append] at hpm
      have h1 : Perm (S.h ++ [(mx S.t (atF S.fs i).f, (atF S.fs i).c)]) ((mx S.t (atF S.fs i).f, (atF S.fs i).c) :: (busyF (S.fs.take i) ++ busyF (S.fs.drop (i + 1)))) := by
       have h2 : Perm (S.h ++ [(mx S.t (atF S.fs i).f, (atF S.fs i).c)]) ((mx S.t (atF S.fs i).f, (atF S.fs i).c) :: S.h) := by
        have := List.perm_append_comm (l₁ := S.h) (l₂ := [(mx S.t (atF S.fs i).f, (atF S.fs i).c)])
        exact this
       exact h2.trans (hpm.cons _)
      have h3 : Perm ((mx S.t (atF S.fs i).f, (atF S.fs i).c) :: (busyF (S.fs.take i) ++ busyF (S.fs.drop (i + 1)))) (busyF (S.fs.take i) ++ ([(mx S.t (atF S.fs i).f, (atF S.fs i).c)] ++ busyF (S.fs.drop (i + 1)))) := by
       have := (List.perm_middle (a := (mx S.t (atF S.fs i).f, (atF S.fs i).c)) (l₁ := busyF (S.fs.take i)) (l₂ := busyF (S.fs.drop (i + 1)))).symm
       simpa using this
      exact hps.1.trans (h1.trans h3)
     have hr8 : rev15_8 S.q S.lim S.t S.k (ordsF S.fs) (tabsF S.fs) (R S.h) (atF S.fs i).c id n z = tabsF (S.fs.set i ⟨(atF S.fs i).c, (atF S.fs i).w, mx S.t (atF S.fs i).f, (atF S.fs i).f, (atF S.fs i).k, S.lim, (atF S.fs i).rs⟩) := by
      unfold rev15_8
      refine tabsF_set I.one hi rfl _ ?_
      rw [e0, e1, e4, e5, e6, e7, wk.1, tab_at I.one hi]
      rfl
     have hr9 : rev15_9 S.q S.lim S.t S.k (ordsF S.fs) (tabsF S.fs) (R S.h) (atF S.fs i).c id n z = mx S.t (atF S.fs i).f := by
      unfold rev15_9
      rw [hr8, tab_ats I.one hi (x := ⟨(atF S.fs i).c, (atF S.fs i).w, mx S.t (atF S.fs i).f, (atF S.fs i).f, (atF S.fs i).k, S.lim, (atF S.fs i).rs⟩) rfl]
      rfl
     have hpu := push17 .imm (l := S.h) (by have := I.hlen; omega) (mx S.t (atF S.fs i).f, (atF S.fs i).c)
     have hK8 := tabsF_hasS hi (x := ⟨(atF S.fs i).c, (atF S.fs i).w, mx S.t (atF S.fs i).f, (atF S.fs i).f, (atF S.fs i).k, S.lim, (atF S.fs i).rs⟩) rfl
     have hK8' : ((List.brecOn.go (motive := fun x => (List AV → Bool) → Bool) (tabsF (S.fs.set i ⟨(atF S.fs i).c, (atF S.fs i).w, mx S.t (atF S.fs i).f, (atF S.fs i).f, (atF S.fs i).k, S.lim, (atF S.fs i).rs⟩)) List.any._f).1 fun e => keyA e == (atF S.fs i).c) = true := (hasK_go _ _).trans hK8
     refine ⟨0, _, I.set hi (x := admF S.t S.lim (atF S.fs i) id n z) rfl (Int.le_refl _) hfx I.t hbl hps.2 hp', .inr ⟨rfl, i, _, hi, rfl, hz1, hz2, rfl⟩, ⟨?_, ?_, ?_, (ords_set (x := admF S.t S.lim (atF S.fs i) id n z) hi rfl).symm, ?_⟩, fun L hL => ?_⟩
     ·unfold vev15_0; rw [hK, e2, hb, e3, decide_eq_false hbig]; rfl
     ·unfold vev15_1; rw [hK, e2, hb, e3, decide_eq_false hbig, hB.1, decide_eq_false hz, hr9]; exact hpu.1
     ·unfold vev15_2; rw [hK, e2, hb, e3, decide_eq_false hbig, hB.1, decide_eq_false hz, hr9, hr8]
      show setK _ _ _ = _
      rw [tabsF_set (I.one.set (i := i) (x := ⟨(atF S.fs i).c, (atF S.fs i).w, mx S.t (atF S.fs i).f, (atF S.fs i).f, (atF S.fs i).k, S.lim, (atF S.fs i).rs⟩) rfl) (i := i) (by simpa using hi) (by rw [set_at hi]) (admF S.t S.lim (atF S.fs i) id n z), List.set_set]
      rw [tab_ats I.one hi (x := ⟨(atF S.fs i).c, (atF S.fs i).w, mx S.t (atF S.fs i).f, (atF S.fs i).f, (atF S.fs i).k, S.lim, (atF S.fs i).rs⟩) rfl, tab_ats I.one hi (x := ⟨(atF S.fs i).c, (atF S.fs i).w, mx S.t (atF S.fs i).f, (atF S.fs i).f, (atF S.fs i).k, S.lim, (atF S.fs i).rs⟩) rfl, tab_ats I.one hi (x := ⟨(atF S.fs i).c, (atF S.fs i).w, mx S.t (atF S.fs i).f, (atF S.fs i).f, (atF S.fs i).k, S.lim, (atF S.fs i).rs⟩) rfl, tab_ats I.one hi (x := ⟨(atF S.fs i).c, (atF S.fs i).w, mx S.t (atF S.fs i).f, (atF S.fs i).f, (atF S.fs i).k, S.lim, (atF S.fs i).rs⟩) rfl, e0, e1, d4, hw]
      show _ = [_, _, _, AV.int .i64 (admF S.t S.lim (atF S.fs i) id n z).s, _, _, _, _]
      rw [hs]
      rfl
     ·unfold vev15_3; rw [hK, e2, hb, e0, e1, d1, e3, decide_eq_false hbig, b34.2, hB.1, hB.2, decide_eq_false hz, hr9, hr8, hK8', hpu.2]; rfl
     ·obtain ⟨g0, g1, g2, g3, g5, g6, g7, g8, g9, g10, g11, g12⟩ := doc L hL
      have hwith := with54 (q := S.q) (lim := S.lim) (t := S.t) (k := S.k) hL h8 hi (admF S.t S.lim (atF S.fs i) id n z)
      rw [hs] at hwith
      have hln : (((atF S.fs i).rs.length : Int) == 0) = true := beq_iff_eq.2 (by omega)
      refine ⟨?_, ?_, ?_⟩
      ·unfold vev16_0; rw [g0, hi0, g10, hb, g11, decide_eq_false hbig, g3, hln]
       unfold rev16_11 rev16_10
       rw [g2, g3, g5, g6, g7, g8, g9, hw, wk.2]
       exact hwith.1
      ·unfold vev16_1; rw [g0, hi0, g10, hb, g11, decide_eq_false hbig]; rfl
      ·unfold vev16_2; rw [g0, hi0, g1, hL.len, in2 hi, g2, g3, d2, g10, hb, g11, decide_eq_false hbig, g12, hln]
       unfold rev16_11 rev16_10
       rw [g2, g3, g5, g6, g7, g8, g9, hw, wk.2, hwith.2]
       rfl
 ·have hno : ∀ i, i < S.fs.length → (atF S.fs i).c ≠ c := fun i hi e => hex ⟨i, hi, e⟩
  have hK : hasK (tabsF S.fs) c = false := tabsF_hasNo hno
  have hx := ix_no hno
  refine ⟨6, S, I, .inl ⟨by omega, rfl⟩, ⟨?_, ?_, ?_, rfl, ?_⟩, fun L hL => ?_⟩
  ·unfold vev15_0; rw [hK]; rfl
  ·unfold vev15_1; rw [hK]; rfl
  ·unfold vev15_2; rw [hK]; rfl
  ·unfold vev15_3; rw [hK]; rfl
  ·have hp := pl46 (q := S.q) (lim := S.lim) (t := S.t) (k := S.k) (tk := .imm) hL h8 c
   refine ⟨?_, ?_, ?_⟩
   ·unfold vev16_0 rev16_0; rw [hp.1, hx]; exact hL
   ·unfold vev16_1 rev16_0; rw [hp.1, hx]; rfl
   ·unfold vev16_2 rev16_0; rw [hp.1, hp.2, hx]; rfl
end Go.Proofs.Gv
namespace Go.Proofs.Gv
open Go.Proofs
open List (Perm)
def Cw (w : Int) : Int := 720720 / w
theorem Cw_spec {w : Int} (h : 1 ≤ w ∧ w ≤ 16) : w * Cw w = 720720 ∧ 45045 ≤ Cw w ∧ Cw w ≤ 720720 := by
 have : w = 1 ∨ w = 2 ∨ w = 3 ∨ w = 4 ∨ w = 5 ∨ w = 6 ∨ w = 7 ∨ w = 8 ∨ w = 9 ∨ w = 10 ∨ w = 11 ∨ w = 12 ∨ w = 13 ∨ w = 14 ∨ w = 15 ∨ w = 16 := by omega
 rcases this with rfl | rfl | rfl | rfl | rfl | rfl | rfl | rfl | rfl | rfl | rfl | rfl | rfl | rfl | rfl | rfl <;> decide
theorem charge_b {c w : Int} (hc : 0 ≤ c) (hw : 1 ≤ w ∧ w ≤ 16) : 0 ≤ c * Cw w ∧ c * Cw w ≤ c * 720720 := by
 have h := Cw_spec hw
 exact ⟨Int.mul_nonneg hc (by omega), Int.mul_le_mul_of_nonneg_left h.2.2 hc⟩
theorem chgT {c w : Int} (hc : 0 ≤ c ∧ c ≤ 1000) (hw : 1 ≤ w ∧ w ≤ 16) : (vev101_0 c w = c * Cw w ∧ vev101_1 c w = 0 ∧ vev101_2 c w = true) ∧ (vev103_0 c w = c * Cw w ∧ vev103_1 c w = 0 ∧ vev103_2 c w = true) := by
 have hs := Cw_spec hw
 have hb := charge_b hc.1 hw
 have h78 : vev78_0 c 1099511627776 = true := by unfold vev78_0; rw [decide_eq_true (show 0 ≤ c by omega), decide_eq_true (show c ≤ 1099511627776 by omega)]; rfl
 have h79 : vev79_0 w = true := by unfold vev79_0; rw [decide_eq_true (show w > 0 by omega), decide_eq_true (show w ≤ 16 by omega)]; rfl
 have h92 : vev92_0 c 1099511627776 = true := by unfold vev92_0; rw [decide_eq_true (show c ≥ 0 by omega), decide_eq_true (show c ≤ 1099511627776 by omega)]; rfl
 have hne : (w == 0) = false := beq_eq_false_iff_ne.2 (by omega)
 have e1 : Int.tdiv 720720 w = Cw w := Int.tdiv_eq_ediv_of_nonneg (by omega)
 have e2 : (c * 720720).tdiv w = c * Cw w := by
  rw [show c * 720720 = c * Cw w * w by rw [Int.mul_assoc, Int.mul_comm (Cw w) w, hs.1], Int.mul_tdiv_cancel _ (by omega)]
 refine ⟨⟨?_, ?_, ?_⟩, ?_, ?_, ?_⟩
 ·unfold vev101_0
  rw [h78, h79, e1, wrapOf (Cw w) (by omega) (by omega), wrapOf _ (by omega) (by omega)]
  rfl
 ·unfold vev101_1; rw [h78, h79]; rfl
 ·unfold vev101_2; rw [h78, h79, hne]; rfl
 ·unfold vev103_0
  rw [h92, wrapOf (c * 720720) (by omega) (by omega), e2, wrapOf _ (by omega) (by omega), decide_eq_false (show ¬ w < 1 by omega), decide_eq_false (show ¬ w > 16 by omega)]
  rfl
 ·unfold vev103_1; rw [h92, decide_eq_false (show ¬ w < 1 by omega), decide_eq_false (show ¬ w > 16 by omega)]; rfl
 ·unfold vev103_2; rw [h92, hne, decide_eq_false (show ¬ w < 1 by omega), decide_eq_false (show ¬ w > 16 by omega)]; rfl
theorem serveT {lim k v u : Int} {x : Fl} (f : FlOK lim k x) (hu : 0 ≤ u ∧ u ≤ 1000) (hk : k + u ≤ 1099511627776) :
  (vev68_0 v x.w x.s x.f x.k u = x.s ∧ vev68_1 v x.w x.s x.f x.k u = x.s + u * Cw x.w ∧ vev68_2 v x.w x.s x.f x.k u = x.s + u * Cw x.w ∧ vev68_3 v x.w x.s x.f x.k u = x.k + u ∧ vev68_4 v x.w x.s x.f x.k u = 0 ∧ vev68_5 v x.w x.s x.f x.k u = true) ∧
  (vev71_0 v x.w x.s x.f x.k u = x.s ∧ vev71_1 v x.w x.s x.f x.k u = x.s + u * Cw x.w ∧ vev71_2 v x.w x.s x.f x.k u = x.s + u * Cw x.w ∧ vev71_3 v x.w x.s x.f x.k u = x.k + u ∧ vev71_5 v x.w x.s x.f x.k u = true) := by
 have c := chkT f (by omega)
 obtain ⟨⟨a0, a1, a2⟩, b0, b1, b2⟩ := chgT hu f.w
 have hb := charge_b hu.1 f.w
 have hs := f.s
 have hx := f.k
 have n0 : ((0 : Int) != 0) = false := rfl
 have w0 : rev68_0 v x.w x.s x.f x.k u = 1099511627776 - x.k := by unfold rev68_0; rw [wrapOf _ (by omega) (by omega)]
 have w1 : rev68_1 v x.w x.s x.f x.k u = 2305843009213693952 - x.s := by unfold rev68_1; rw [wrapOf _ (by omega) (by omega)]
 have w2 : rev71_0 v x.w x.s x.f x.k u = x.k + u := by unfold rev71_0; rw [wrapOf _ (by omega) (by omega)]
 have w3 : rev71_1 v x.w x.s x.f x.k u = x.s + u * Cw x.w := by unfold rev71_1; rw [b0, wrapOf _ (by omega) (by omega)]
 refine ⟨⟨?_, ?_, ?_, ?_, ?_, ?_⟩, ?_, ?_, ?_, ?_, ?_⟩
 ·unfold vev68_0; rw [c.1, n0, a1, n0, a0, w0, w1, decide_eq_false (show ¬ u > 1099511627776 - x.k by omega), decide_eq_false (show ¬ u * Cw x.w > 2305843009213693952 - x.s by omega)]; rfl
 ·unfold vev68_1; rw [c.1, n0, a1, n0, a0, w0, w1, decide_eq_false (show ¬ u > 1099511627776 - x.k by omega), decide_eq_false (show ¬ u * Cw x.w > 2305843009213693952 - x.s by omega), wrapOf _ (by omega) (by omega)]; rfl
 ·unfold vev68_2; rw [c.1, n0, a1, n0, a0, w0, w1, decide_eq_false (show ¬ u > 1099511627776 - x.k by omega), decide_eq_false (show ¬ u * Cw x.w > 2305843009213693952 - x.s by omega), wrapOf _ (by omega) (by omega)]; rfl
 ·unfold vev68_3; rw [c.1, n0, a1, n0, a0, w0, w1, decide_eq_false (show ¬ u > 1099511627776 - x.k by omega), decide_eq_false (show ¬ u * Cw x.w > 2305843009213693952 - x.s by omega), wrapOf _ (by omega) (by omega)]; rfl
 ·unfold vev68_4; rw [c.1, n0, a1, n0, a0, w0, w1, decide_eq_false (show ¬ u > 1099511627776 - x.k by omega), decide_eq_false (show ¬ u * Cw x.w > 2305843009213693952 - x.s by omega)]; rfl
 ·unfold vev68_5; rw [c.1, n0, a2]; rfl
 ·unfold vev71_0; rw [c.2, n0, b1, n0, w2, w3, decide_eq_false (show ¬ x.k + u > 1099511627776 by omega), decide_eq_false (show ¬ x.s + u * Cw x.w > 2305843009213693952 by omega)]; rfl
 ·unfold vev71_1; rw [c.2, n0, b1, n0, w2, w3, decide_eq_false (show ¬ x.k + u > 1099511627776 by omega), decide_eq_false (show ¬ x.s + u * Cw x.w > 2305843009213693952 by omega)]; rfl
 ·unfold vev71_2; rw [c.2, n0, b1, n0, w2, w3, decide_eq_false (show ¬ x.k + u > 1099511627776 by omega), decide_eq_false (show ¬ x.s + u * Cw x.w > 2305843009213693952 by omega)]; rfl
 ·unfold vev71_3; rw [c.2, n0, b1, n0, w2, w3, decide_eq_false (show ¬ x.k + u > 1099511627776 by omega), decide_eq_false (show ¬ x.s + u * Cw x.w > 2305843009213693952 by omega)]; rfl
 ·unfold vev71_5; rw [c.2, n0, b2]; rfl
def keyF (x : Fl) : It := (x.s, x.c)
def nxF (fs : List Fl) : Nat → Int
 | 0 => -1
 | j + 1 => if (atF fs j).rs.length = 0 then nxF fs j else if nxF fs j < 0 then (j : Int) else if ltI (keyF (atF fs j)) (keyF (atF fs (nxF fs j).toNat)) = true then (j : Int) else nxF fs j
def LeastF (fs : List Fl) (n a : Nat) : Prop := a < n ∧ 0 < (atF fs a).rs.length ∧ ∀ b, b < n → 0 < (atF fs b).rs.length → ltI (keyF (atF fs b)) (keyF (atF fs a)) = false
theorem nxF_spec (fs : List Fl) : ∀ n, (nxF fs n = -1 ∧ ∀ b, b < n → (atF fs b).rs.length = 0) ∨ ∃ a : Nat, nxF fs n = (a : Int) ∧ LeastF fs n a := by
 intro n
 induction n with
 | zero => exact .inl ⟨rfl, fun b hb => by omega⟩
 | succ n ih =>
   unfold nxF
   by_cases hz : (atF fs n).rs.length = 0
   ·rw [if_pos hz]
    rcases ih with ⟨h1, h2⟩ | ⟨a, h1, h2, h3, h4⟩
    ·refine .inl ⟨h1, fun b hb => ?_⟩
     by_cases e : b = n
     ·rw [e]; exact hz
     ·exact h2 b (by omega)
    ·refine .inr ⟨a, h1, by omega, h3, fun b hb h => ?_⟩
     by_cases e : b = n
     ·rw [e] at h; omega
     ·exact h4 b (by omega) h
   ·rw [if_neg hz]
    rcases ih with ⟨h1, h2⟩ | ⟨a, h1, h2, h3, h4⟩
    ·rw [h1, if_pos (by omega)]
     refine .inr ⟨n, rfl, by omega, by omega, fun b hb h => ?_⟩
     by_cases e : b = n
     ·rw [e]; exact ltI_irr _
     ·have := h2 b (by omega); omega
    ·rw [h1, if_neg (by omega), Int.toNat_natCast]
     cases hlt : ltI (keyF (atF fs n)) (keyF (atF fs a)) with
     | true =>
       rw [if_pos rfl]
       refine .inr ⟨n, rfl, by omega, by omega, fun b hb h => ?_⟩
       by_cases e : b = n
       ·rw [e]; exact ltI_irr _
       ·exact leI_trans (ltI_asym hlt) (h4 b (by omega) h)
     | false =>
       rw [if_neg (by simp)]
       refine .inr ⟨a, rfl, by omega, h3, fun b hb h => ?_⟩
       by_cases e : b = n
       ·rw [e]; exact hlt
       ·exact h4 b (by omega) h
theorem LeastF.nx {fs : List Fl} (h1 : OneF fs) {i : Nat} (h : LeastF fs fs.length i) : nxF fs fs.length = (i : Int) := by
 rcases nxF_spec fs fs.length with ⟨_, h2⟩ | ⟨a, e, a1, a2, a3⟩
 ·have := h2 i h.1
  have := h.2.1
  omega
 ·have e1 := h.2.2 a a1 a2
  have e2 := a3 i h.1 h.2.1
  have := leI_antisymm e2 e1
  have hc : (atF fs a).c = (atF fs i).c := congrArg Prod.snd this
  rw [e, h1 i a h.1 a1 hc]
section
variable {q lim t k : Int} {fs : List Fl} {L : List (List AV)} {tk : Tk}
theorem ends69 (hL : Lk L fs) (h8 : fs.length ≤ 8) : Ends (g69_3 (q, lim, tk, L, t, k)) (n69_3 (q, lim, tk, L, t, k)) ((-1 : Int), (0 : Int)) (nxF fs fs.length, (fs.length : Int)) := by
 refine Ends.count (go := g69_3 (q, lim, tk, L, t, k)) (next := n69_3 (q, lim, tk, L, t, k)) fs.length (fun i => (nxF fs i, (i : Int))) (fun i hi => ?_) ?_
 ·have hc := hL.cells hi
  have hlt : decide ((i : Int) < (fs.length : Int)) = true := decide_eq_true (by omega)
  have e0 : ∀ a, rn69_3_0 a (i : Int) q lim tk L t k = (atF fs i).s := fun a => hc.2.2.1
  have e2 : ∀ a, rn69_3_2 a (i : Int) q lim tk L t k = (atF fs i).c := fun a => hc.1
  have hn : nx69_3_1 (nxF fs i) (i : Int) q lim tk L t k = ((i + 1 : Nat) : Int) := nxt8 i _ hi h8
  have key : go69_3 (nxF fs i) (i : Int) q lim tk L t k = true ∧ nx69_3_0 (nxF fs i) (i : Int) q lim tk L t k = nxF fs (i + 1) := by
   unfold go69_3 nx69_3_0
   rw [hL.len, in2 hi, hlt, hc.2.2.2.2.2.2, e0, e2]
   by_cases hz : (atF fs i).rs.length = 0
   ·have hz' : (((atF fs i).rs.length : Int) == 0) = true := beq_iff_eq.2 (by omega)
    rw [hz']
    refine ⟨rfl, ?_⟩
    show nxF fs i = _
    conv => rhs; unfold nxF
    rw [if_pos hz]
   ·have hz' : (((atF fs i).rs.length : Int) == 0) = false := beq_eq_false_iff_ne.2 (by omega)
    rw [hz']
    conv => rhs; rhs; unfold nxF
    rw [if_neg hz]
    rcases nxF_spec fs i with ⟨h1, h2⟩ | ⟨a, h1, h2, h3, h4⟩
    ·rw [h1, if_pos (by omega), decide_eq_true (show (-1 : Int) < 0 by omega)]
     exact ⟨rfl, rfl⟩
    ·have ha : a < fs.length := by omega
     have hca := hL.cells ha
     have e1 : rn69_3_1 (a : Int) (i : Int) q lim tk L t k = (atF fs a).s := hca.2.2.1
     have e3 : rn69_3_3 (a : Int) (i : Int) q lim tk L t k = (atF fs a).c := hca.1
     rw [h1, if_neg (by omega), decide_eq_false (show ¬ (a : Int) < 0 by omega), in2 ha, e1, e3, Int.toNat_natCast]
     unfold ltI keyF
     dsimp only
     cases decide ((atF fs i).s < (atF fs a).s) with
     | true => exact ⟨rfl, rfl⟩
     | false =>
       cases ((atF fs i).s == (atF fs a).s) with
       | false => exact ⟨rfl, rfl⟩
       | true =>
         cases decide ((atF fs i).c < (atF fs a).c) with
         | false => exact ⟨rfl, rfl⟩
         | true => exact ⟨rfl, rfl⟩
  refine ⟨key.1, ?_⟩
  show (nx69_3_0 (nxF fs i) (i : Int) q lim tk L t k, nx69_3_1 (nxF fs i) (i : Int) q lim tk L t k) = _
  rw [key.2, hn]
 ·show go69_3 (nxF fs fs.length) (fs.length : Int) q lim tk L t k = false
  unfold go69_3
  rw [hL.len, decide_eq_false (by omega)]
  rfl
theorem nx69 (hL : Lk L fs) (h8 : fs.length ≤ 8) : vev69_0 q lim t k tk L = nxF fs fs.length ∧ vev69_1 q lim t k tk L = true := by
 have h := (ends69 (q := q) (lim := lim) (t := t) (k := k) (tk := tk) hL h8).fin
 unfold vev69_0 vev69_1 rev69_0
 simp only [spI]
 rw [h.2, h.1]
 unfold z69_3 xc69_3_0
 dsimp only
 rw [hL.len, decide_eq_false (show ¬ (fs.length : Int) < (fs.length : Int) by omega)]
 exact ⟨rfl, rfl⟩
end
end Go.Proofs.Gv
