/-
Unack: the searches.
-/
import Derived.Test.YtogfdnopjgpdiaaGaUq3
import Derived.Test.YtogfdnopjgpdiaaGwA
import Derived.Test.YtogfdnopjgpdiaaGwI
namespace Go.Proofs.Gv
open Go.Proofs
set_option linter.unusedVariables false
/-- An item's settings, and its tick; a setting's number, and its value. -/
def pr (es : List (List AV)) (i : Nat) : List (List AV) := elsO ((es.getD i []).getD 0 .junk)
def si (es : List (List AV)) (i : Nat) : Int := intOf ((es.getD i []).getD 1 .junk)
def id0 (l : List (List AV)) (i : Nat) : Int := intOf ((l.getD i []).getD 0 .junk)
def vl0 (l : List (List AV)) (i : Nat) : Int := intOf ((l.getD i []).getD 1 .junk)
variable {tk tk2 : Tk} {es es2 : List (List AV)}
theorem sk41a_2 (hN : es.length ≤ 1000) : finL (g41a_2 (tk, es, (es.length : Int))) (n41a_2 (tk, es, (es.length : Int))) (0 : Int) = ((fs (fun i => decide (((pr es i).length : Int) > 8)) 0 es.length : Nat) : Int) ∧ (spI g41a_2 n41a_2 y41a_2 z41a_2 d41a_2 ((tk, es, (es.length : Int)), (0 : Int))).fst = true ∧ xc41a_2_0 tk es (es.length : Int) ((fs (fun i => decide (((pr es i).length : Int) > 8)) 0 es.length : Nat) : Int) = hasF (fun i => decide (((pr es i).length : Int) > 8)) 0 es.length :=
  seek (go := g41a_2) (next := n41a_2) (alts := y41a_2) (dB := z41a_2) (d := d41a_2) (p := (tk, es, (es.length : Int))) (fun i => decide (((pr es i).length : Int) > 8)) 0 es.length (fun t => xc41a_2_0 tk es (es.length : Int) t) (fun i hs hi => by
    show go41a_2 tk es (es.length : Int) (i : Int) = _
    unfold go41a_2
    unfold rn41a_2_0; rw [dge, dlt, Int.toNat_natCast]
    by_cases h : i < es.length
    · rw [decide_eq_true h]
      show (bif (decide (((pr es i).length : Int) > 8)) then false else true) = (true && !(decide (((pr es i).length : Int) > 8)))
      cases (decide (((pr es i).length : Int) > 8)) <;> rfl
    · rw [decide_eq_false h]
      rfl) (fun i hi => step64 i _ hi (by omega)) (fun i hs hi => by
    show xc41a_2_0 tk es (es.length : Int) (i : Int) = _
    unfold xc41a_2_0
    unfold rn41a_2_0; rw [dge, dlt, Int.toNat_natCast]
    by_cases h : i < es.length
    · rw [decide_eq_true h]
      rfl
    · rw [decide_eq_false h]
      rfl) (fun i => Bool.or_false _) (fun i => by
    show xc41a_2_1 tk es (es.length : Int) (i : Int) = _
    unfold xc41a_2_1
    rw [dlt]
    cases decide (i < es.length) <;> rfl)
theorem sk41b_2 (hN : es.length ≤ 1000) : finL (g41b_2 (tk, es, (es.length : Int))) (n41b_2 (tk, es, (es.length : Int))) (0 : Int) = ((fs (fun i => !vev27_0 (si es i)) 0 es.length : Nat) : Int) ∧ (spI g41b_2 n41b_2 y41b_2 z41b_2 d41b_2 ((tk, es, (es.length : Int)), (0 : Int))).fst = true ∧ xc41b_2_0 tk es (es.length : Int) ((fs (fun i => !vev27_0 (si es i)) 0 es.length : Nat) : Int) = hasF (fun i => !vev27_0 (si es i)) 0 es.length :=
  seek (go := g41b_2) (next := n41b_2) (alts := y41b_2) (dB := z41b_2) (d := d41b_2) (p := (tk, es, (es.length : Int))) (fun i => !vev27_0 (si es i)) 0 es.length (fun t => xc41b_2_0 tk es (es.length : Int) t) (fun i hs hi => by
    show go41b_2 tk es (es.length : Int) (i : Int) = _
    unfold go41b_2
    rw [dge, dlt, Int.toNat_natCast]
    by_cases h : i < es.length
    · rw [decide_eq_true h]
      show (bif (!vev27_0 (si es i)) then false else true) = (true && !(!vev27_0 (si es i)))
      cases (!vev27_0 (si es i)) <;> rfl
    · rw [decide_eq_false h]
      rfl) (fun i hi => step64 i _ hi (by omega)) (fun i hs hi => by
    show xc41b_2_0 tk es (es.length : Int) (i : Int) = _
    unfold xc41b_2_0
    rw [dge, dlt, Int.toNat_natCast]
    by_cases h : i < es.length
    · rw [decide_eq_true h]
      rfl
    · rw [decide_eq_false h]
      rfl) (fun i => Bool.or_false _) (fun i => by
    show xc41b_2_1 tk es (es.length : Int) (i : Int) = _
    unfold xc41b_2_1
    rw [dlt]
    cases decide (i < es.length) <;> rfl)
theorem sk18_4 (hN : es.length ≤ 1000) : finL (g18_4 (tk, es)) (n18_4 (tk, es)) (0 : Int) = ((fs (fun i => decide (((pr es i).length : Int) > 8)) 0 es.length : Nat) : Int) ∧ (spI g18_4 n18_4 y18_4 z18_4 d18_4 ((tk, es), (0 : Int))).fst = true ∧ xc18_4_0 tk es ((fs (fun i => decide (((pr es i).length : Int) > 8)) 0 es.length : Nat) : Int) = hasF (fun i => decide (((pr es i).length : Int) > 8)) 0 es.length :=
  seek (go := g18_4) (next := n18_4) (alts := y18_4) (dB := z18_4) (d := d18_4) (p := (tk, es)) (fun i => decide (((pr es i).length : Int) > 8)) 0 es.length (fun t => xc18_4_0 tk es t) (fun i hs hi => by
    show go18_4 tk es (i : Int) = _
    unfold go18_4
    unfold rn18_4_0; rw [dge, dlt, Int.toNat_natCast]
    by_cases h : i < es.length
    · rw [decide_eq_true h]
      show (bif (decide (((pr es i).length : Int) > 8)) then false else true) = (true && !(decide (((pr es i).length : Int) > 8)))
      cases (decide (((pr es i).length : Int) > 8)) <;> rfl
    · rw [decide_eq_false h]
      rfl) (fun i hi => step64 i _ hi (by omega)) (fun i hs hi => by
    show xc18_4_0 tk es (i : Int) = _
    unfold xc18_4_0
    unfold rn18_4_0; rw [dge, dlt, Int.toNat_natCast]
    by_cases h : i < es.length
    · rw [decide_eq_true h]
      rfl
    · rw [decide_eq_false h]
      rfl) (fun i => Bool.or_false _) (fun i => by
    show xc18_4_1 tk es (i : Int) = _
    unfold xc18_4_1
    rw [dlt]
    cases decide (i < es.length) <;> rfl)
theorem sk18_9 (hN : es.length ≤ 1000) : finL (g18_9 (tk, es)) (n18_9 (tk, es)) (0 : Int) = ((fs (fun i => !vev29_0 (si es i)) 0 es.length : Nat) : Int) ∧ (spI g18_9 n18_9 y18_9 z18_9 d18_9 ((tk, es), (0 : Int))).fst = true ∧ xc18_9_0 tk es ((fs (fun i => !vev29_0 (si es i)) 0 es.length : Nat) : Int) = hasF (fun i => !vev29_0 (si es i)) 0 es.length :=
  seek (go := g18_9) (next := n18_9) (alts := y18_9) (dB := z18_9) (d := d18_9) (p := (tk, es)) (fun i => !vev29_0 (si es i)) 0 es.length (fun t => xc18_9_0 tk es t) (fun i hs hi => by
    show go18_9 tk es (i : Int) = _
    unfold go18_9
    rw [dge, dlt, Int.toNat_natCast]
    by_cases h : i < es.length
    · rw [decide_eq_true h]
      show (bif (!vev29_0 (si es i)) then false else true) = (true && !(!vev29_0 (si es i)))
      cases (!vev29_0 (si es i)) <;> rfl
    · rw [decide_eq_false h]
      rfl) (fun i hi => step64 i _ hi (by omega)) (fun i hs hi => by
    show xc18_9_0 tk es (i : Int) = _
    unfold xc18_9_0
    rw [dge, dlt, Int.toNat_natCast]
    by_cases h : i < es.length
    · rw [decide_eq_true h]
      rfl
    · rw [decide_eq_false h]
      rfl) (fun i => Bool.or_false _) (fun i => by
    show xc18_9_1 tk es (i : Int) = _
    unfold xc18_9_1
    rw [dlt]
    cases decide (i < es.length) <;> rfl)
theorem sk18_14 (hN : es.length ≤ 1000) : finL (g18_14 (tk, es)) (n18_14 (tk, es)) (1 : Int) = ((fs (fun i => decide (si es i < si es (i - 1))) 1 es.length : Nat) : Int) ∧ (spI g18_14 n18_14 y18_14 z18_14 d18_14 ((tk, es), (1 : Int))).fst = true ∧ xc18_14_0 tk es ((fs (fun i => decide (si es i < si es (i - 1))) 1 es.length : Nat) : Int) = hasF (fun i => decide (si es i < si es (i - 1))) 1 es.length :=
  seek (go := g18_14) (next := n18_14) (alts := y18_14) (dB := z18_14) (d := d18_14) (p := (tk, es)) (fun i => decide (si es i < si es (i - 1))) 1 es.length (fun t => xc18_14_0 tk es t) (fun i hs hi => by
    show go18_14 tk es (i : Int) = _
    unfold go18_14
    unfold rn18_14_1 rn18_14_2 rn18_14_0; rw [dge, dlt, Int.toNat_natCast, wrap64 ((i : Int) - 1) (by omega) (by omega), show (i : Int) - 1 = ((i - 1 : Nat) : Int) by omega, Int.toNat_natCast, dge, dlt]
    by_cases h : i < es.length
    · rw [decide_eq_true h]
      rw [decide_eq_true (show i - 1 < es.length by omega)]
      show (bif (decide (si es i < si es (i - 1))) then false else true) = (true && !(decide (si es i < si es (i - 1))))
      cases (decide (si es i < si es (i - 1))) <;> rfl
    · rw [decide_eq_false h]
      rfl) (fun i hi => step64 i _ hi (by omega)) (fun i hs hi => by
    show xc18_14_0 tk es (i : Int) = _
    unfold xc18_14_0
    unfold rn18_14_1 rn18_14_2 rn18_14_0; rw [dge, dlt, Int.toNat_natCast, wrap64 ((i : Int) - 1) (by omega) (by omega), show (i : Int) - 1 = ((i - 1 : Nat) : Int) by omega, Int.toNat_natCast, dge, dlt]
    by_cases h : i < es.length
    · rw [decide_eq_true h]
      rw [decide_eq_true (show i - 1 < es.length by omega)]
      rfl
    · rw [decide_eq_false h]
      rfl) (fun i => Bool.or_false _) (fun i => by
    show xc18_14_1 tk es (i : Int) = _
    unfold xc18_14_1
    rw [dlt]
    cases decide (i < es.length) <;> rfl)
theorem sk7_4 (hN : es.length ≤ 1000) : finL (g7_4 (tk, es)) (n7_4 (tk, es)) (0 : Int) = ((fs (fun i => decide (((pr es i).length : Int) > 20)) 0 es.length : Nat) : Int) ∧ (spI g7_4 n7_4 y7_4 z7_4 d7_4 ((tk, es), (0 : Int))).fst = true ∧ xc7_4_0 tk es ((fs (fun i => decide (((pr es i).length : Int) > 20)) 0 es.length : Nat) : Int) = hasF (fun i => decide (((pr es i).length : Int) > 20)) 0 es.length :=
  seek (go := g7_4) (next := n7_4) (alts := y7_4) (dB := z7_4) (d := d7_4) (p := (tk, es)) (fun i => decide (((pr es i).length : Int) > 20)) 0 es.length (fun t => xc7_4_0 tk es t) (fun i hs hi => by
    show go7_4 tk es (i : Int) = _
    unfold go7_4
    unfold rn7_4_0; rw [dge, dlt, Int.toNat_natCast]
    by_cases h : i < es.length
    · rw [decide_eq_true h]
      show (bif (decide (((pr es i).length : Int) > 20)) then false else true) = (true && !(decide (((pr es i).length : Int) > 20)))
      cases (decide (((pr es i).length : Int) > 20)) <;> rfl
    · rw [decide_eq_false h]
      rfl) (fun i hi => step64 i _ hi (by omega)) (fun i hs hi => by
    show xc7_4_0 tk es (i : Int) = _
    unfold xc7_4_0
    unfold rn7_4_0; rw [dge, dlt, Int.toNat_natCast]
    by_cases h : i < es.length
    · rw [decide_eq_true h]
      rfl
    · rw [decide_eq_false h]
      rfl) (fun i => Bool.or_false _) (fun i => by
    show xc7_4_1 tk es (i : Int) = _
    unfold xc7_4_1
    rw [dlt]
    cases decide (i < es.length) <;> rfl)
theorem sk39_4 (hN : es.length ≤ 1000) (hE : es.length = es2.length) : finL (g39_4 (tk, es, tk2, es2, (es.length : Int))) (n39_4 (tk, es, tk2, es2, (es.length : Int))) (0 : Int) = ((fs (fun i => !(id0 es i == id0 es2 i && (vl0 es i == vl0 es2 i && true))) 0 es.length : Nat) : Int) ∧ (spI g39_4 n39_4 y39_4 z39_4 d39_4 ((tk, es, tk2, es2, (es.length : Int)), (0 : Int))).fst = true ∧ xc39_4_0 tk es tk2 es2 (es.length : Int) ((fs (fun i => !(id0 es i == id0 es2 i && (vl0 es i == vl0 es2 i && true))) 0 es.length : Nat) : Int) = hasF (fun i => !(id0 es i == id0 es2 i && (vl0 es i == vl0 es2 i && true))) 0 es.length :=
  seek (go := g39_4) (next := n39_4) (alts := y39_4) (dB := z39_4) (d := d39_4) (p := (tk, es, tk2, es2, (es.length : Int))) (fun i => !(id0 es i == id0 es2 i && (vl0 es i == vl0 es2 i && true))) 0 es.length (fun t => xc39_4_0 tk es tk2 es2 (es.length : Int) t) (fun i hs hi => by
    show go39_4 tk es tk2 es2 (es.length : Int) (i : Int) = _
    unfold go39_4
    rw [dge, dlt, Int.toNat_natCast, dlt]
    by_cases h : i < es.length
    · rw [decide_eq_true h]
      rw [decide_eq_true (show i < es2.length by omega)]
      show (bif (!(id0 es i == id0 es2 i && (vl0 es i == vl0 es2 i && true))) then false else true) = (true && !(!(id0 es i == id0 es2 i && (vl0 es i == vl0 es2 i && true))))
      cases (!(id0 es i == id0 es2 i && (vl0 es i == vl0 es2 i && true))) <;> rfl
    · rw [decide_eq_false h]
      rfl) (fun i hi => step64 i _ hi (by omega)) (fun i hs hi => by
    show xc39_4_0 tk es tk2 es2 (es.length : Int) (i : Int) = _
    unfold xc39_4_0
    rw [dge, dlt, Int.toNat_natCast, dlt]
    by_cases h : i < es.length
    · rw [decide_eq_true h]
      rw [decide_eq_true (show i < es2.length by omega)]
      rfl
    · rw [decide_eq_false h]
      rfl) (fun i => Bool.or_false _) (fun i => by
    show xc39_4_1 tk es tk2 es2 (es.length : Int) (i : Int) = _
    unfold xc39_4_1
    rw [dlt]
    cases decide (i < es.length) <;> rfl)
theorem sk16_4 (hN : es.length ≤ 1000) (hE : es.length = es2.length) : finL (g16_4 (tk, es, tk2, es2)) (n16_4 (tk, es, tk2, es2)) (0 : Int) = ((fs (fun i => !(id0 es i == id0 es2 i && (vl0 es i == vl0 es2 i && true))) 0 es.length : Nat) : Int) ∧ (spI g16_4 n16_4 y16_4 z16_4 d16_4 ((tk, es, tk2, es2), (0 : Int))).fst = true ∧ xc16_4_0 tk es tk2 es2 ((fs (fun i => !(id0 es i == id0 es2 i && (vl0 es i == vl0 es2 i && true))) 0 es.length : Nat) : Int) = hasF (fun i => !(id0 es i == id0 es2 i && (vl0 es i == vl0 es2 i && true))) 0 es.length :=
  seek (go := g16_4) (next := n16_4) (alts := y16_4) (dB := z16_4) (d := d16_4) (p := (tk, es, tk2, es2)) (fun i => !(id0 es i == id0 es2 i && (vl0 es i == vl0 es2 i && true))) 0 es.length (fun t => xc16_4_0 tk es tk2 es2 t) (fun i hs hi => by
    show go16_4 tk es tk2 es2 (i : Int) = _
    unfold go16_4
    rw [dge, dlt, Int.toNat_natCast, dlt]
    by_cases h : i < es.length
    · rw [decide_eq_true h]
      rw [decide_eq_true (show i < es2.length by omega)]
      show (bif (!(id0 es i == id0 es2 i && (vl0 es i == vl0 es2 i && true))) then false else true) = (true && !(!(id0 es i == id0 es2 i && (vl0 es i == vl0 es2 i && true))))
      cases (!(id0 es i == id0 es2 i && (vl0 es i == vl0 es2 i && true))) <;> rfl
    · rw [decide_eq_false h]
      rfl) (fun i hi => step64 i _ hi (by omega)) (fun i hs hi => by
    show xc16_4_0 tk es tk2 es2 (i : Int) = _
    unfold xc16_4_0
    rw [dge, dlt, Int.toNat_natCast, dlt]
    by_cases h : i < es.length
    · rw [decide_eq_true h]
      rw [decide_eq_true (show i < es2.length by omega)]
      rfl
    · rw [decide_eq_false h]
      rfl) (fun i => Bool.or_false _) (fun i => by
    show xc16_4_1 tk es tk2 es2 (i : Int) = _
    unfold xc16_4_1
    rw [dlt]
    cases decide (i < es.length) <;> rfl)
/-- Are two lists of settings one? -/
def sameP (es es2 : List (List AV)) : Bool := bif ((es.length : Int) != (es2.length : Int)) then false else bif hasF (fun i => !(id0 es i == id0 es2 i && (vl0 es i == vl0 es2 i && true))) 0 es.length then false else true
theorem r39 (hN : es.length ≤ 1000) : vev39_0 tk es tk2 es2 = sameP es es2 ∧ vev39_1 tk es tk2 es2 = true := by
  unfold vev39_0 vev39_1 rev39_0 sameP
  by_cases hE : es.length = es2.length
  · have h := sk39_4 (tk := tk) (tk2 := tk2) hN hE
    rw [h.1, h.2.1, h.2.2, show ((es.length : Int) != (es2.length : Int)) = false by simp [hE]]
    exact ⟨rfl, rfl⟩
  · rw [show ((es.length : Int) != (es2.length : Int)) = true by simp; omega]
    exact ⟨rfl, rfl⟩
theorem r16 (hN : es.length ≤ 1000) : vev16_0 tk es tk2 es2 = sameP es es2 ∧ vev16_1 tk es tk2 es2 = true := by
  unfold vev16_0 vev16_1 rev16_0 sameP
  by_cases hE : es.length = es2.length
  · have h := sk16_4 (tk := tk) (tk2 := tk2) hN hE
    rw [h.1, h.2.1, h.2.2, show ((es.length : Int) != (es2.length : Int)) = false by simp [hE]]
    exact ⟨rfl, rfl⟩
  · rw [show ((es.length : Int) != (es2.length : Int)) = true by simp; omega]
    exact ⟨rfl, rfl⟩
/-- All lists of settings are short enough. -/
def Sh (es : List (List AV)) : Prop := ∀ i, i < es.length → (pr es i).length ≤ 1000
/-- What makes two items differ. -/
def df (es es2 : List (List AV)) (i : Nat) : Bool := !(bif si es i == si es2 i then sameP (pr es i) (pr es2 i) else false)
theorem r38 {a b : Int} (hN : es.length ≤ 1000) : vev38_0 es a es2 b = (bif a == b then sameP es es2 else false) ∧ vev38_1 es a es2 b = true := by
  unfold vev38_0 vev38_1
  rw [(r39 hN).1, (r39 hN).2]
  cases (a == b) <;> exact ⟨rfl, rfl⟩
theorem sk37_4 (hN : es.length ≤ 1000) (hE : es.length = es2.length) (hS : Sh es) : finL (g37_4 (tk2, es2, tk, es, (es.length : Int))) (n37_4 (tk2, es2, tk, es, (es.length : Int))) (0 : Int) = ((fs (fun i => df es es2 i) 0 es.length : Nat) : Int) ∧ (spI g37_4 n37_4 y37_4 z37_4 d37_4 ((tk2, es2, tk, es, (es.length : Int)), (0 : Int))).fst = true ∧ xc37_4_0 tk2 es2 tk es (es.length : Int) ((fs (fun i => df es es2 i) 0 es.length : Nat) : Int) = hasF (fun i => df es es2 i) 0 es.length :=
  seek (go := g37_4) (next := n37_4) (alts := y37_4) (dB := z37_4) (d := d37_4) (p := (tk2, es2, tk, es, (es.length : Int))) (fun i => df es es2 i) 0 es.length (fun t => xc37_4_0 tk2 es2 tk es (es.length : Int) t) (fun i hs hi => by
    show go37_4 tk2 es2 tk es (es.length : Int) (i : Int) = _
    unfold go37_4
    unfold rn37_4_0 rn37_4_1 rn37_4_2 rn37_4_3; rw [dge, dlt, Int.toNat_natCast, dlt, show elsO ((es.getD i []).getD 0 AV.junk) = pr es i from rfl, show intOf ((es.getD i []).getD (0 + 1) AV.junk) = si es i from rfl, show elsO ((es2.getD i []).getD 0 AV.junk) = pr es2 i from rfl, show intOf ((es2.getD i []).getD (0 + 1) AV.junk) = si es2 i from rfl]
    by_cases h : i < es.length
    · rw [decide_eq_true h]
      rw [decide_eq_true (show i < es2.length by omega), (r38 (hS i h)).1, (r38 (hS i h)).2]
      show (bif (df es es2 i) then false else true) = (true && !(df es es2 i))
      cases (df es es2 i) <;> rfl
    · rw [decide_eq_false h]
      rfl) (fun i hi => step64 i _ hi (by omega)) (fun i hs hi => by
    show xc37_4_0 tk2 es2 tk es (es.length : Int) (i : Int) = _
    unfold xc37_4_0
    unfold rn37_4_0 rn37_4_1 rn37_4_2 rn37_4_3; rw [dge, dlt, Int.toNat_natCast, dlt, show elsO ((es.getD i []).getD 0 AV.junk) = pr es i from rfl, show intOf ((es.getD i []).getD (0 + 1) AV.junk) = si es i from rfl, show elsO ((es2.getD i []).getD 0 AV.junk) = pr es2 i from rfl, show intOf ((es2.getD i []).getD (0 + 1) AV.junk) = si es2 i from rfl]
    by_cases h : i < es.length
    · rw [decide_eq_true h]
      rw [decide_eq_true (show i < es2.length by omega), (r38 (hS i h)).1, (r38 (hS i h)).2]
      rfl
    · rw [decide_eq_false h]
      rfl) (fun i => Bool.or_false _) (fun i => by
    show xc37_4_1 tk2 es2 tk es (es.length : Int) (i : Int) = _
    unfold xc37_4_1
    rw [dlt]
    cases decide (i < es.length) <;> rfl)
theorem sk14_4 (hN : es.length ≤ 1000) (hE : es.length = es2.length) (hS : Sh es) : finL (g14_4 (tk, es, tk2, es2)) (n14_4 (tk, es, tk2, es2)) (0 : Int) = ((fs (fun i => df es es2 i) 0 es.length : Nat) : Int) ∧ (spI g14_4 n14_4 y14_4 z14_4 d14_4 ((tk, es, tk2, es2), (0 : Int))).fst = true ∧ xc14_4_0 tk es tk2 es2 ((fs (fun i => df es es2 i) 0 es.length : Nat) : Int) = hasF (fun i => df es es2 i) 0 es.length :=
  seek (go := g14_4) (next := n14_4) (alts := y14_4) (dB := z14_4) (d := d14_4) (p := (tk, es, tk2, es2)) (fun i => df es es2 i) 0 es.length (fun t => xc14_4_0 tk es tk2 es2 t) (fun i hs hi => by
    show go14_4 tk es tk2 es2 (i : Int) = _
    unfold go14_4
    unfold rn14_4_0 rn14_4_1; rw [dge, dlt, Int.toNat_natCast, dlt, show elsO ((es.getD i []).getD 0 AV.junk) = pr es i from rfl, show intOf ((es.getD i []).getD (0 + 1) AV.junk) = si es i from rfl, show elsO ((es2.getD i []).getD 0 AV.junk) = pr es2 i from rfl, show intOf ((es2.getD i []).getD (0 + 1) AV.junk) = si es2 i from rfl]
    by_cases h : i < es.length
    · rw [decide_eq_true h]
      rw [decide_eq_true (show i < es2.length by omega), (r16 (hS i h)).1, (r16 (hS i h)).2]
      unfold df; rw [show (si es i != si es2 i) = !(si es i == si es2 i) from rfl]; cases (si es i == si es2 i) <;> cases sameP (pr es i) (pr es2 i) <;> rfl
    · rw [decide_eq_false h]
      rfl) (fun i hi => step64 i _ hi (by omega)) (fun i hs hi => by
    show xc14_4_0 tk es tk2 es2 (i : Int) = _
    unfold xc14_4_0
    unfold rn14_4_0 rn14_4_1; rw [dge, dlt, Int.toNat_natCast, dlt, show elsO ((es.getD i []).getD 0 AV.junk) = pr es i from rfl, show intOf ((es.getD i []).getD (0 + 1) AV.junk) = si es i from rfl, show elsO ((es2.getD i []).getD 0 AV.junk) = pr es2 i from rfl, show intOf ((es2.getD i []).getD (0 + 1) AV.junk) = si es2 i from rfl]
    by_cases h : i < es.length
    · rw [decide_eq_true h]
      rw [decide_eq_true (show i < es2.length by omega), (r16 (hS i h)).1, (r16 (hS i h)).2]
      unfold df; rw [show (si es i != si es2 i) = !(si es i == si es2 i) from rfl]; cases (si es i == si es2 i) <;> cases sameP (pr es i) (pr es2 i) <;> rfl
    · rw [decide_eq_false h]
      rfl) (fun i => Bool.or_false _) (fun i => by
    show xc14_4_1 tk es tk2 es2 (i : Int) = _
    unfold xc14_4_1
    rw [dlt]
    cases decide (i < es.length) <;> rfl)
end Go.Proofs.Gv
