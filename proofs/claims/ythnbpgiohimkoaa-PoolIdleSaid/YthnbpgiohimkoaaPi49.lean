import Derived.Test.YthnbpgiohimkoaaPi44
import Derived.Test.YthnbpgiohimkoaaPi45
import Derived.Test.YthnbpgiohimkoaaPi47
import Derived.Test.YthnbpgiohimkoaaPi48
set_option linter.unusedVariables false
namespace Go.Proofs.Gv
open Go.Proofs
set_option maxRecDepth 20000
abbrev Zs (n : Nat) : List (List AV) := List.replicate n [.int .i64 0]
theorem z_get {n i : Nat} (h : i < n) : ((Zs n).getD i []).getD (0 : Nat) AV.junk = .int .i64 0 := by
 simp [List.getD_eq_getElem?_getD, List.getElem?_replicate, h]
theorem wrapS (x : Int) (h0 : 0 ≤ x) (h1 : x ≤ 100000) : IntKind.i64.wrap x = x := wrapOf x (by omega) (by omega)
theorem nxS (i n : Nat) (h : i < n) (hn : n ≤ 1000) : IntKind.i64.wrap ((i : Int) + 1) = ((i + 1 : Nat) : Int) := by rw [wrapS _ (by omega) (by omega)]; rfl
theorem v58z : vev58_0 0 = true := by kernel_rfl
theorem v58d {d : Int} (h0 : 0 ≤ d) (h1 : d ≤ 1000) : vev58_0 d = true := by
 unfold vev58_0
 rw [decide_eq_true (show d ≥ 0 from h0), decide_eq_true (show d ≤ 1099511627776 by omega)]
 rfl
theorem lenZ (n : Nat) : (((Zs n).length : Nat) : Int) = (n : Int) := by rw [List.length_replicate]
theorem e20 {n : Nat} (hn : n ≤ 8) (d : Int) : Ends (g20_5 (Zs n, ((Zs n).length : Int), Zs n, Zs n, d)) (n20_5 (Zs n, ((Zs n).length : Int), Zs n, Zs n, d)) (0 : Int) (n : Int) := by
 refine Ends.count n (fun i : Nat => (i : Int)) (fun i hi => ⟨?_, nxS i n hi (by omega)⟩) ?_
 ·show go20_5 (Zs n) ((Zs n).length : Int) (i : Int) (Zs n) (Zs n) d = true
  unfold go20_5 rn20_5_0 rn20_5_1
  rw [lenZ, Int.toNat_natCast, z_get hi, decide_eq_true (show (i : Int) < (n : Int) by omega), decide_eq_true (show (0 : Int) ≤ (i : Int) by omega)]
  simp only [intOf, v58z]
  rfl
 ·show go20_5 (Zs n) ((Zs n).length : Int) (n : Int) (Zs n) (Zs n) d = false
  unfold go20_5
  rw [lenZ, decide_eq_false (show ¬ (n : Int) < (n : Int) by omega)]
  rfl
theorem c20 {n : Nat} (h1 : 1 ≤ n) (hn : n ≤ 8) {d : Int} (h0 : 0 ≤ d) (hd : d ≤ 1000) : vev20_0 (Zs n) (Zs n) d = 0 ∧ vev20_1 (Zs n) (Zs n) d = true := by
 have h := (e20 hn d).fin
 have hx0 : xc20_5_0 (Zs n) ((Zs n).length : Int) (n : Int) (Zs n) (Zs n) d = false := by
  unfold xc20_5_0
  rw [lenZ, decide_eq_false (show ¬ (n : Int) < (n : Int) by omega)]
  rfl
 have hx1 : xc20_5_1 (Zs n) ((Zs n).length : Int) (n : Int) (Zs n) (Zs n) d = true := by
  unfold xc20_5_1
  rw [lenZ, decide_eq_false (show ¬ (n : Int) < (n : Int) by omega)]
  rfl
 have hs : (spI g20_5 n20_5 y20_5 z20_5 d20_5 ((Zs n, ((Zs n).length : Int), Zs n, Zs n, d), (0 : Int))).fst = true := by
  simp only [spI]
  rw [h.2, h.1]
  unfold y20_5 z20_5
  simp only [hx0, hx1]
  rfl
 unfold vev20_0 vev20_1 rev20_0
 rw [h.2, hs, hx0, v58d h0 hd, lenZ, decide_eq_false (show ¬ (n : Int) < 1 by omega), decide_eq_false (show ¬ (n : Int) > 8 by omega)]
 simp
theorem c22 {n : Nat} (h1 : 1 ≤ n) (hn : n ≤ 8) {d : Int} (h0 : 0 ≤ d) (hd : d ≤ 1000) : vev22_0 (Zs n) (Zs n) d = 0 ∧ vev22_1 (Zs n) (Zs n) d = true := by
 have c := c20 h1 hn h0 hd
 have h : Ends (g22_5 (Zs n, ((Zs n).length : Int))) (n22_5 (Zs n, ((Zs n).length : Int))) ((0 : Int), (0 : Int)) ((0 : Int), (n : Int)) := by
  refine Ends.count n (fun i : Nat => ((0 : Int), (i : Int))) (fun i hi => ⟨?_, ?_⟩) ?_
  ·show go22_5 0 (Zs n) ((Zs n).length : Int) (i : Int) = true
   unfold go22_5
   rw [lenZ, decide_eq_true (show (i : Int) < (n : Int) by omega), decide_eq_true (show (0 : Int) ≤ (i : Int) by omega)]
   rfl
  ·show (nx22_5_0 0 (Zs n) ((Zs n).length : Int) (i : Int), nx22_5_3 0 (Zs n) ((Zs n).length : Int) (i : Int)) = _
   unfold nx22_5_0 nx22_5_3
   rw [Int.toNat_natCast, z_get hi, nxS i n hi (by omega)]
   rfl
  ·show go22_5 0 (Zs n) ((Zs n).length : Int) (n : Int) = false
   unfold go22_5
   rw [lenZ, decide_eq_false (show ¬ (n : Int) < (n : Int) by omega)]
   rfl
 have h := h.fin
 have hx : xc22_5_0 0 (Zs n) ((Zs n).length : Int) (n : Int) = true := by
  unfold xc22_5_0
  rw [lenZ, decide_eq_false (show ¬ (n : Int) < (n : Int) by omega)]
  rfl
 have hs : (spI g22_5 n22_5 y22_5 z22_5 d22_5 ((Zs n, ((Zs n).length : Int)), (0 : Int), (0 : Int))).fst = true := by
  simp only [spI]
  rw [h.2, h.1]
  unfold y22_5 z22_5
  simp only [hx]
  rfl
 unfold vev22_0 vev22_1 rev22_0
 rw [c.1, c.2, h.2, hs]
 exact ⟨rfl, rfl⟩
theorem c60 {n : Nat} (hn : n ≤ 8) : vev60_0 (Zs n) (Zs n) = true ∧ vev60_1 (Zs n) (Zs n) = true := by
 have h : Ends (g60_4 (Zs n, Zs n, ((Zs n).length : Int))) (n60_4 (Zs n, Zs n, ((Zs n).length : Int))) (0 : Int) (n : Int) := by
  refine Ends.count n (fun i : Nat => (i : Int)) (fun i hi => ⟨?_, nxS i n hi (by omega)⟩) ?_
  ·show go60_4 (Zs n) (Zs n) ((Zs n).length : Int) (i : Int) = true
   unfold go60_4
   rw [lenZ, Int.toNat_natCast, z_get hi, decide_eq_true (show (i : Int) < (n : Int) by omega), decide_eq_true (show (0 : Int) ≤ (i : Int) by omega)]
   rfl
  ·show go60_4 (Zs n) (Zs n) ((Zs n).length : Int) (n : Int) = false
   unfold go60_4
   rw [lenZ, decide_eq_false (show ¬ (n : Int) < (n : Int) by omega)]
   rfl
 have h := h.fin
 have hx0 : xc60_4_0 (Zs n) (Zs n) ((Zs n).length : Int) (n : Int) = false := by
  unfold xc60_4_0
  rw [lenZ, decide_eq_false (show ¬ (n : Int) < (n : Int) by omega)]
  rfl
 have hx1 : xc60_4_1 (Zs n) (Zs n) ((Zs n).length : Int) (n : Int) = true := by
  unfold xc60_4_1
  rw [lenZ, decide_eq_false (show ¬ (n : Int) < (n : Int) by omega)]
  rfl
 have hs : (spI g60_4 n60_4 y60_4 z60_4 d60_4 ((Zs n, Zs n, ((Zs n).length : Int)), (0 : Int))).fst = true := by
  simp only [spI]
  rw [h.2, h.1]
  unfold y60_4 z60_4
  simp only [hx0, hx1]
  rfl
 unfold vev60_0 vev60_1 rev60_0
 rw [h.2, hs, hx0]
 simp
theorem c56 {n : Nat} (hn : n ≤ 8) (d : Int) : vev56_0 (Zs n) (Zs n) d = true := by
 unfold vev56_0
 rw [List.length_replicate, show (n * 8).ble 140737488355328 = true from Nat.ble_eq_true_of_le (by omega)]
 rfl
def inr (n : Nat) (w : Int) : Bool := decide (0 ≤ w) && decide (w < (n : Int))
theorem c76 {n : Nat} (h1 : 1 ≤ n) (hn : n ≤ 8) {d : Int} (h0 : 0 ≤ d) (hd : d ≤ 1000) (w : Int) : vev76_0 (Zs n) (Zs n) d w = inr n w ∧ vev76_1 (Zs n) (Zs n) d w = true := by
 have c := c20 h1 hn h0 hd
 unfold vev76_0 vev76_1 rev76_0 inr
 rw [c.1, c.2, lenZ]
 by_cases a : 0 ≤ w
 ·by_cases b : w < (n : Int)
  ·rw [z_get (show w.toNat < n by omega)]
   simp [a, b, intOf]
  ·simp [a, b]
 ·simp [a]
/- a scheduler upon which nothing waits -/
theorem s31 : vev31_9 1 1 0 0 [] [] [] = true ∧ vev31_4 1 1 0 0 [] [] [] = false ∧ vev31_5 1 1 0 0 [] [] [] = [] ∧ vev31_6 1 1 0 0 [] [] [] = 0 ∧ vev31_7 1 1 0 0 [] [] [] = 0 ∧ vev31_8 1 1 0 0 [] [] [] = [] := ⟨by kernel_rfl, by kernel_rfl, by kernel_rfl, by kernel_rfl, by kernel_rfl, by kernel_rfl⟩
theorem w39 {n : Nat} (h1 : 1 ≤ n) (hn : n ≤ 8) {d : Int} (h0 : 0 ≤ d) (hd : d ≤ 900) (w : Int) :
  vev39_12 (Zs n) (Zs n) d w 1 1 0 0 [] [] [] = true ∧ vev39_0 (Zs n) (Zs n) d w 1 1 0 0 [] [] [] = Zs n ∧ vev39_1 (Zs n) (Zs n) d w 1 1 0 0 [] [] [] = Zs n ∧ vev39_2 (Zs n) (Zs n) d w 1 1 0 0 [] [] [] = d + (bif inr n w then 1 else 0) ∧ vev39_7 (Zs n) (Zs n) d w 1 1 0 0 [] [] [] = false ∧
   vev39_8 (Zs n) (Zs n) d w 1 1 0 0 [] [] [] = [] ∧ vev39_9 (Zs n) (Zs n) d w 1 1 0 0 [] [] [] = 0 ∧ vev39_10 (Zs n) (Zs n) d w 1 1 0 0 [] [] [] = 0 ∧ vev39_11 (Zs n) (Zs n) d w 1 1 0 0 [] [] [] = [] := by
 obtain ⟨a1, a2, a3, a4, a5, a6⟩ := s31
 have c := c76 h1 hn h0 (by omega) w
 have hr : rev39_0 (Zs n) (Zs n) d w 1 1 0 0 [] [] [] = d + 1 := wrapS _ (by omega) (by omega)
 unfold vev39_12 vev39_0 vev39_1 vev39_2 vev39_7 vev39_8 vev39_9 vev39_10 vev39_11
 rw [a1, a2, a3, a4, a5, a6, c.1, c.2, c56 hn d, hr]
 cases inr n w
 ·simp
 ·simp
  omega
theorem w39n {n : Nat} (h1 : 1 ≤ n) (hn : n ≤ 8) {d : Int} (h0 : 0 ≤ d) (hd : d ≤ 900) (w : Int) : vev39n_1 (Zs n) (Zs n) d w = true ∧ vev39n_0 (Zs n) (Zs n) d w = d + (bif inr n w then 1 else 0) := by
 have c := c76 h1 hn h0 (by omega) w
 have hr : rev39n_0 (Zs n) (Zs n) d w = d + 1 := wrapS _ (by omega) (by omega)
 unfold vev39n_1 vev39n_0
 rw [c.1, c.2, c56 hn d, hr]
 cases inr n w
 ·simp
 ·simp
  omega
def cnt (n : Nat) : List (List AV) → Nat
 | [] => 0
 | r :: l => (bif inr n (intOf (r.getD 0 .junk)) then 1 else 0) + cnt n l
theorem cnt_le (n : Nat) : ∀ l, cnt n l ≤ l.length
 | [] => Nat.le_refl _
 | r :: l => by
   have := cnt_le n l
   unfold cnt
   simp only [List.length_cons]
   cases inr n (intOf (r.getD 0 .junk)) <;> simp <;> omega
theorem cnt_app (n : Nat) : ∀ a b, cnt n (a ++ b) = cnt n a + cnt n b
 | [], b => by simp [cnt]
 | r :: a, b => by
   have := cnt_app n a b
   simp only [List.cons_append, cnt]
   omega
def Ints (l : List (List AV)) : Prop := ∀ r ∈ l, ∃ x, r = [AV.int .i64 x]
theorem f39 {n : Nat} (h1 : 1 ≤ n) (hn : n ≤ 8) : ∀ (l : List (List AV)), Ints l → ∀ (d : Int), 0 ≤ d → d + l.length ≤ 900 → fold39 1 1 [] l (Zs n) (Zs n) d [] 0 0 [] = some ((Zs n, Zs n, d + cnt n l), ([], 0, 0, []), []) ∧ fold39n (Zs n) (Zs n) l d = some (d + cnt n l)
 | [], _, d, _, _ => by
   unfold fold39 fold39n cnt
   simp
 | r :: l, hl, d, h0, hd => by
   obtain ⟨x, rfl⟩ := hl r (by simp)
   simp only [List.length_cons] at hd
   obtain ⟨b1, b2, b3, b4, b5, b6, b7, b8, b9⟩ := w39 h1 hn h0 (by omega) x
   have bn := w39n h1 hn h0 (by omega) x
   have ih := f39 h1 hn l (fun r hr => hl r (by simp [hr])) (d + (bif inr n x then 1 else 0)) (by cases inr n x <;> simp <;> omega) (by cases inr n x <;> simp <;> omega)
   have hc : cnt n ([AV.int .i64 x] :: l) = (bif inr n x then 1 else 0) + cnt n l := rfl
   unfold fold39 fold39n
   simp only [b1, b2, b3, b4, b5, b6, b7, b8, b9, bn.1, bn.2, ih.1, ih.2]
   rw [hc]
   clear b1 b2 b3 b4 b5 b6 b7 b8 b9 bn ih hc
   cases inr n x
   ·simp [xR]
   ·simp [xR]
    omega
theorem cnt_take (n : Nat) (l : List (List AV)) {i : Nat} (hi : i < l.length) : cnt n (l.take (i + 1)) = cnt n (l.take i) + (bif inr n (intOf ((l.getD i []).getD (0 : Nat) AV.junk)) then 1 else 0) := by
 have e : l.getD i [] = l[i] := by simp [List.getD_eq_getElem?_getD, hi]
 rw [List.take_succ_eq_append_getElem hi, cnt_app, e]
 rfl
theorem l49 {n : Nat} (hn : n ≤ 8) (l : List (List AV)) (h60 : l.length ≤ 60) : Ends (g4_9 (l, Zs n, Zs n, (0 : Int), (1 : Int), (1 : Int), (0 : Int), (0 : Int), [])) (n4_9 (l, Zs n, Zs n, (0 : Int), (1 : Int), (1 : Int), (0 : Int), (0 : Int), [])) ((0 : Int), (0 : Int)) ((cnt n l : Int), (l.length : Int)) := by
 have h := Ends.count (go := g4_9 (l, Zs n, Zs n, (0 : Int), (1 : Int), (1 : Int), (0 : Int), (0 : Int), [])) (next := n4_9 (l, Zs n, Zs n, (0 : Int), (1 : Int), (1 : Int), (0 : Int), (0 : Int), [])) l.length (fun i : Nat => ((cnt n (l.take i) : Int), (i : Int))) (fun i hi => ⟨?_, ?_⟩) ?_
 ·rw [List.take_length] at h
  exact h
 ·show go4_9 l _ (i : Int) _ _ _ _ _ _ _ _ = true
  unfold go4_9
  rw [decide_eq_true (show (i : Int) < (l.length : Int) by omega), decide_eq_true (show (0 : Int) ≤ (i : Int) by omega)]
  simp
 ·show (nx4_9_1 l (cnt n (l.take i) : Int) (i : Int) (Zs n) (Zs n) 0 1 1 0 0 [], nx4_9_2 l (cnt n (l.take i) : Int) (i : Int) (Zs n) (Zs n) 0 1 1 0 0 []) = _
  have hw : nx4_9_2 l (cnt n (l.take i) : Int) (i : Int) (Zs n) (Zs n) 0 1 1 0 0 [] = ((i + 1 : Nat) : Int) := nxS i l.length hi (by omega)
  have hx : rn4_9_0 l (cnt n (l.take i) : Int) (i : Int) (Zs n) (Zs n) 0 1 1 0 0 [] = intOf ((l.getD i []).getD (0 : Nat) AV.junk) := by unfold rn4_9_0; rw [Int.toNat_natCast]
  have hc := cnt_take n l hi
  have hcl := cnt_le n (l.take i)
  rw [List.length_take] at hcl
  have hs : IntKind.i64.wrap ((cnt n (l.take i) : Int) + 1) = ((cnt n (l.take i) + 1 : Nat) : Int) := nxS _ 61 (by omega) (by omega)
  rw [hw]
  unfold nx4_9_1
  rw [hx, hs, lenZ, decide_eq_true (show (i : Int) < (l.length : Int) by omega), decide_eq_true (show (0 : Int) ≤ (i : Int) by omega), hc]
  generalize intOf ((l.getD i []).getD (0 : Nat) AV.junk) = x
  unfold inr
  by_cases a : 0 ≤ x <;> by_cases b : x < (n : Int) <;> simp [a, b]
 ·show go4_9 l _ (l.length : Int) _ _ _ _ _ _ _ _ = false
  unfold go4_9
  rw [decide_eq_false (show ¬ (l.length : Int) < (l.length : Int) by omega)]
  rfl
theorem main4 (w : Int) (l : List (List AV)) (hw : 0 ≤ w ∧ w ≤ 255) (hl : Ints l) : vev4_0 w l = true ∧ vev4_1 w l = true := by
 by_cases hb : (l.length : Int) > 60
 ·unfold vev4_0 vev4_1
  rw [decide_eq_true hb]
  exact ⟨rfl, rfl⟩
 ·have hz : ∃ n : Nat, 1 ≤ n ∧ n ≤ 8 ∧ rev4_0 w l = (n : Int) := by
   refine ⟨(w % 8).toNat + 1, by omega, by omega, ?_⟩
   unfold rev4_0
   rw [Int.tmod_eq_emod_of_nonneg hw.1, wrapS (w % 8) (by omega) (by omega), wrapS _ (by omega) (by omega)]
   omega
  obtain ⟨n, h1, hn, hr⟩ := hz
  have q0 : vev24_0 (n : Int) = Zs n := by
   unfold vev24_0
   rw [decide_eq_false (show ¬ (n : Int) < 1 by omega), decide_eq_false (show ¬ (n : Int) > 8 by omega), Int.toNat_natCast]
   rfl
  have q1 : vev24_1 (n : Int) = 0 := by
   unfold vev24_1
   rw [decide_eq_false (show ¬ (n : Int) < 1 by omega), decide_eq_false (show ¬ (n : Int) > 8 by omega)]
   rfl
  have q2 : vev24_2 (n : Int) = true := by
   unfold vev24_2 rev24_0
   rw [decide_eq_false (show ¬ (n : Int) < 1 by omega), decide_eq_false (show ¬ (n : Int) > 8 by omega), decide_eq_true (show (0 : Int) ≤ (n : Int) by omega), decide_eq_true (show (n : Int) * ((8 : Nat) : Int) ≤ 140737488355328 by omega), decide_eq_true (show (n : Int) ≤ 9223372036854775807 by omega)]
   simp
  have hu : rev4_1 w l = Zs n := by unfold rev4_1; rw [hr, q0]
  have hcl := cnt_le n l
  obtain ⟨k1, k2⟩ := f39 h1 hn l hl 0 (by omega) (by omega)
  rw [Int.zero_add] at k1 k2
  have hv : v17 1 1 [] l (Zs n) (Zs n) 0 [] 0 0 [] = ((Zs n, Zs n, (cnt n l : Int)), ([], 0, 0, []), []) := by unfold v17; rw [k1]; rfl
  have g0 : vev17_0 1 1 [] l (Zs n) (Zs n) 0 [] 0 0 [] = Zs n := by unfold vev17_0; rw [hv]
  have g1 : vev17_1 1 1 [] l (Zs n) (Zs n) 0 [] 0 0 [] = Zs n := by unfold vev17_1; rw [hv]
  have g2 : vev17_2 1 1 [] l (Zs n) (Zs n) 0 [] 0 0 [] = (cnt n l : Int) := by unfold vev17_2; rw [hv]
  have g3 : vev17_3 1 1 [] l (Zs n) (Zs n) 0 [] 0 0 [] = [] := by unfold vev17_3; rw [hv]
  have g8 : vev17_8 1 1 [] l (Zs n) (Zs n) 0 [] 0 0 [] = true := by
   unfold vev17_8
   rw [g0, g1, g2, k1, c56 hn, Nat.ble_eq_true_of_le (show l.length ≤ 1000000 by omega)]
   rfl
  have m0 : vev17n_0 l (Zs n) (Zs n) 0 = (cnt n l : Int) := by unfold vev17n_0; rw [k2]; rfl
  have m1 : vev17n_1 l (Zs n) (Zs n) 0 = true := by
   unfold vev17n_1
   rw [m0, k2, c56 hn, Nat.ble_eq_true_of_le (show l.length ≤ 1000000 by omega)]
   rfl
  have r2 : rev4_2 w l = (cnt n l : Int) := by unfold rev4_2; rw [hu, g2]
  have r4 : rev4_4 w l = Zs n := by unfold rev4_4; rw [hu, g0]
  have r5 : rev4_5 w l = Zs n := by unfold rev4_5; rw [hu, g1]
  have r6 : rev4_6 w l = (cnt n l : Int) := by unfold rev4_6; rw [hu, m0]
  have hf := (l49 hn l (by omega)).fin
  have r3 : (rev4_3 w l).fst = (cnt n l : Int) := by unfold rev4_3; rw [hu, hf.2]
  have hx : xc4_9_0 l (cnt n l : Int) (l.length : Int) (Zs n) (Zs n) 0 1 1 0 0 [] = true := by
   unfold xc4_9_0
   rw [decide_eq_false (show ¬ (l.length : Int) < (l.length : Int) by omega)]
   rfl
  have hs : (spI g4_9 n4_9 y4_9 z4_9 d4_9 ((l, Zs n, Zs n, (0 : Int), (1 : Int), (1 : Int), (0 : Int), (0 : Int), []), (0 : Int), (0 : Int))).fst = true := by
   simp only [spI]
   rw [hf.2, hf.1]
   unfold y4_9 z4_9
   simp only [hx]
   rfl
  have c22' := c22 h1 hn (d := (cnt n l : Int)) (by omega) (by omega)
  have c60' := c60 hn
  have c25 : vev25_0 (Zs n) (Zs n) (cnt n l : Int) (Zs n) (Zs n) (cnt n l : Int) = true ∧ vev25_1 (Zs n) (Zs n) (cnt n l : Int) (Zs n) (Zs n) (cnt n l : Int) = true := by
   unfold vev25_0 vev25_1
   rw [c60'.1, c60'.2]
   simp
  unfold vev4_0 vev4_1
  rw [r2, r3, r4, r5, r6, hr, hu, q1, q2, g3, g8, m1, hs, c22'.1, c22'.2, c25.1, c25.2, decide_eq_false hb]
  simp
theorem law4 (w : Int) (l : List (List AV)) (hw : (Lit.int .u8 w).wf = true) (hl : ∀ x ∈ l, okKL [.int .i64] x) : FnOK Try.prog 4 [.int .u8 w, .sl .imm [.int .i64] l] [] (.bool true) [] := by
 have hwb : 0 ≤ w ∧ w ≤ 255 := by
  have h2 : (decide (0 ≤ w) && decide (w ≤ 255)) = true := hw
  simpa using h2
 have hli : Ints l := fun r hr => by
  obtain ⟨x, xs, rfl, ⟨n, rfl, _⟩, hx⟩ := hl r hr
  simp only [okKL] at hx
  subst hx
  exact ⟨n, rfl⟩
 have x := main4 w l hwb hli
 have h := ev4 w l
 rw [x.1, x.2, cond_true] at h
 exact (fn_ok mixed plain (gk_ok kw_ok 30) Try.func4 loops4 h).2
end Go.Proofs.Gv
