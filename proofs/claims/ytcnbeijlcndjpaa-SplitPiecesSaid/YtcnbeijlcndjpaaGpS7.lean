/-
The plain law of SplitPieces: it is nothing whether bytes come at once, or in pieces.
-/
import Derived.Test.YtcnbeijlcndjpaaGaS7
import Derived.Test.YtcnbeijlcndjpaaGpSpF
namespace Go.Proofs.Gv
open Go.Proofs
set_option linter.unusedVariables false
/-- A state: none is dead. -/
abbrev Sto := Option (Nat × List UInt8)
def encS : Sto → Int × List UInt8 × Bool
  | none => (0, [], true)
  | some (g, s) => (g, s, false)
def feedX : Sto → List UInt8 → Sto × List (List AV) × Int
  | none, _ => (none, [], 0)
  | some (g, s), l => match greetM g l with
    | none => (none, [], 1)
    | some (g', r) => if whole (cutF (s ++ r)).2 < 0 then (none, (cutF (s ++ r)).1, 6) else (some (g', (cutF (s ++ r)).2), (cutF (s ++ r)).1, 0)
def okS : Sto → Nat → Prop
  | none, _ => True
  | some (g, s), n => May g s ∧ s.length ≤ n
theorem greet_spec : ∀ (l : List UInt8) (g g' : Nat) (r : List UInt8), g ≤ 24 → greetM g l = some (g', r) → g ≤ g' ∧ g' ≤ 24 ∧ (g' < 24 → r = []) := by
  intro l
  induction l with
  | nil =>
    intro g g' r hg h
    simp only [greetM, Option.some.injEq, Prod.mk.injEq] at h
    obtain ⟨rfl, rfl⟩ := h
    exact ⟨Nat.le_refl _, hg, fun _ => rfl⟩
  | cons b l ih =>
    intro g g' r hg h
    rw [greetM] at h
    split at h
    · split at h
      · obtain ⟨h1, h2, h3⟩ := ih (g + 1) g' r (by omega) h
        exact ⟨by omega, h2, h3⟩
      · cases h
    · injection h with h
      injection h with h1 h2
      subst h1 h2
      exact ⟨Nat.le_refl _, hg, fun hh => by omega⟩
theorem greet_full {g : Nat} {l : List UInt8} (h : ¬ g < 24) : greetM g l = some (g, l) := by
  cases l with
  | nil => rfl
  | cons b l => rw [greetM, if_neg h]
theorem greet_append : ∀ (a b : List UInt8) (g : Nat), greetM g (a ++ b) = match greetM g a with
    | none => none
    | some (g', r) => (greetM g' b).map fun p => (p.1, r ++ p.2) := by
  intro a
  induction a with
  | nil =>
    intro b g
    simp only [List.nil_append, greetM]
    cases greetM g b <;> rfl
  | cons x a ih =>
    intro b g
    rw [List.cons_append]
    simp only [greetM]
    by_cases hg : g < 24
    · simp only [if_pos hg]
      by_cases hx : x = pf.getD g 0
      · simp only [if_pos hx]
        exact ih b (g + 1)
      · simp only [if_neg hx]
    · simp only [if_neg hg]
      rw [greet_full hg]
      rfl
theorem Ln_app {s t : List UInt8} (h : 9 ≤ s.length) : Ln (s ++ t) = Ln s := by
  unfold Ln
  rw [bA_app (by omega), bA_app (by omega), bA_app (by omega)]
theorem whole_app {s t : List UInt8} (h : 0 < whole s) : whole (s ++ t) = whole s ∧ rowM (s ++ t) = rowM s ∧ (s ++ t).drop (whole s).toNat = s.drop (whole s).toNat ++ t := by
  obtain ⟨h9, h1, h2, h3⟩ := whole_pos h
  have hL := Ln_le s
  have hw : whole (s ++ t) = whole s := by
    rw [h3]
    unfold whole
    rw [Ln_app h9, List.length_append, if_neg (by omega), if_neg (by omega), if_neg (by omega)]
  refine ⟨hw, ?_, ?_⟩
  · unfold rowM
    rw [hw, Ln_app h9, bA_app (by omega), bA_app (by omega)]
    have e1 : Sn (s ++ t) = Sn s := by
      unfold Sn
      rw [bA_app (by omega), bA_app (by omega), bA_app (by omega), bA_app (by omega)]
    have e2 : (s ++ t).take (whole s).toNat = s.take (whole s).toNat := List.take_append_of_le_length (by omega)
    rw [e1, e2]
  · exact List.drop_append_of_le_length (by omega)
theorem whole_long {s t : List UInt8} (h : whole s < 0) : whole (s ++ t) < 0 := by
  have hL := Ln_le s
  by_cases h9 : 9 ≤ s.length
  · unfold whole at h ⊢
    rw [if_neg (by omega)] at h
    rw [Ln_app h9, List.length_append, if_neg (by omega)]
    split at h
    · rename_i h1; rw [if_pos h1]; omega
    · split at h <;> omega
  · unfold whole at h
    rw [if_pos (by omega)] at h
    omega
theorem cutM_app : ∀ (n : Nat) (s t : List UInt8), s.length ≤ n → cutM (n + t.length) (s ++ t) = ((cutM n s).1 ++ (cutM (n + t.length) ((cutM n s).2 ++ t)).1, (cutM (n + t.length) ((cutM n s).2 ++ t)).2) := by
  intro n
  induction n with
  | zero =>
    intro s t h
    have : s = [] := List.eq_nil_of_length_eq_zero (by omega)
    subst this
    rfl
  | succ n ih =>
    intro s t h
    by_cases hw : 0 < whole s
    · have hd := drop_len hw
      obtain ⟨e1, e2, e3⟩ := whole_app (t := t) hw
      have hw' : 0 < whole (s ++ t) := by rw [e1]; exact hw
      have hl := (cutM_end n (s.drop (whole s).toNat) (by omega)).2.1
      rw [show n + 1 + t.length = (n + t.length) + 1 by omega, cutM_go hw', cutM_go hw, e1, e2, e3, ih _ t (by omega)]
      dsimp only
      rw [cutM_fuel (n + t.length) (n + t.length + 1) ((cutM n (s.drop (whole s).toNat)).2 ++ t) (by rw [List.length_append]; omega) (by rw [List.length_append]; omega)]
      rfl
    · rw [cutM_no hw]
      rfl
theorem cutF_app (s t : List UInt8) : cutF (s ++ t) = ((cutF s).1 ++ (cutF ((cutF s).2 ++ t)).1, (cutF ((cutF s).2 ++ t)).2) := by
  have h := cutM_app s.length s t (Nat.le_refl _)
  have hl := (cutM_end s.length s (Nat.le_refl _)).2.1
  unfold cutF
  rw [List.length_append, h]
  rw [cutM_fuel (s.length + t.length) ((cutM s.length s).2 ++ t).length ((cutM s.length s).2 ++ t) (by rw [List.length_append]; omega) (Nat.le_refl _)]
theorem cutF_no {s : List UInt8} (h : ¬ 0 < whole s) : cutF s = ([], s) := cutM_no h
theorem cutF_end (s : List UInt8) : whole (cutF s).2 ≤ 0 ∧ (cutF s).2.length ≤ s.length ∧ (cutF s).1.length ≤ s.length := cutM_end s.length s (Nat.le_refl _)
theorem feedX_ok {st : Sto} {n : Nat} {l : List UInt8} (h : okS st n) : okS (feedX st l).1 (n + l.length) ∧ ((feedX st l).2.2 = 0 ∨ (feedX st l).2.2 = 1 ∨ (feedX st l).2.2 = 6) ∧ (∀ x ∈ (feedX st l).2.1, fit5 x = x) ∧ (feedX st l).2.1.length ≤ n + l.length := by
  cases st with
  | none => exact ⟨trivial, .inl rfl, fun x hx => (by cases hx), Nat.zero_le _⟩
  | some p =>
    obtain ⟨g, s⟩ := p
    obtain ⟨hm, hs⟩ := h
    unfold feedX
    dsimp only
    cases hg : greetM g l with
    | none => exact ⟨trivial, .inr (.inl rfl), fun x hx => (by cases hx), Nat.zero_le _⟩
    | some q =>
      obtain ⟨g', r⟩ := q
      obtain ⟨g1, g2, g3⟩ := greet_spec l g g' r hm.hg hg
      have hr := greet_len l g g' r hg
      obtain ⟨c1, c2, c3⟩ := cutF_end (s ++ r)
      rw [List.length_append] at c2 c3
      dsimp only
      split
      · exact ⟨trivial, .inr (.inr rfl), fit_cut _ _, by dsimp only; omega⟩
      · rename_i hw
        refine ⟨⟨⟨g2, fun hlt => ?_, by omega⟩, by omega⟩, .inl rfl, fit_cut _ _, by dsimp only; omega⟩
        have hr0 := g3 hlt
        have hs0 := hm.he (by omega)
        subst hr0 hs0
        rfl
theorem feedX_append {st : Sto} {n : Nat} (h : okS st n) (a b : List UInt8) : feedX st (a ++ b) = ((feedX (feedX st a).1 b).1, (feedX st a).2.1 ++ (feedX (feedX st a).1 b).2.1, (feedX st a).2.2 + (feedX (feedX st a).1 b).2.2) := by
  cases st with
  | none => rfl
  | some p =>
    obtain ⟨g, s⟩ := p
    obtain ⟨hm, hs⟩ := h
    unfold feedX
    dsimp only
    rw [greet_append]
    cases hg : greetM g a with
    | none => rfl
    | some q =>
      obtain ⟨g', r⟩ := q
      obtain ⟨g1, g2, g3⟩ := greet_spec a g g' r hm.hg hg
      dsimp only
      by_cases hw : whole (cutF (s ++ r)).2 < 0
      · rw [if_pos hw]
        have hlt : ¬ g' < 24 := by
          intro hlt
          have hr0 := g3 hlt
          have hs0 := hm.he (by omega)
          subst hr0 hs0
          have : whole (cutF ([] ++ [])).2 = 0 := rfl
          omega
        rw [greet_full hlt]
        have hc := cutF_app (s ++ r) b
        have hw2 := whole_long (t := b) hw
        rw [cutF_no (show ¬ 0 < whole ((cutF (s ++ r)).2 ++ b) by omega)] at hc
        dsimp only [Option.map_some]
        rw [← List.append_assoc, hc]
        dsimp only
        rw [if_pos hw2]
        rfl
      · rw [if_neg hw]
        dsimp only
        cases hb : greetM g' b with
        | none =>
          dsimp only [Option.map_none]
          have hlt : g' < 24 := by
            by_cases hlt : g' < 24
            · exact hlt
            · rw [greet_full hlt] at hb; cases hb
          have hr0 := g3 hlt
          have hs0 := hm.he (by omega)
          subst hr0 hs0
          rfl
        | some q2 =>
          obtain ⟨g'', r'⟩ := q2
          dsimp only [Option.map_some]
          have hc := cutF_app (s ++ r) r'
          rw [← List.append_assoc, hc]
          dsimp only
          split
          · rfl
          · rfl
theorem feedX19 {st : Sto} {n : Nat} (h : okS st n) (hn : n ≤ 40000) {l : List UInt8} (hl : l.length ≤ 40000) {g : Int} {s : List UInt8} {d : Bool} (he : (g, s, d) = encS st) :
    (vev19_0 g s d (l.map ofB), vev19_1 g s d (l.map ofB), vev19_2 g s d (l.map ofB)) = encS (feedX st l).1 ∧ vev19_3 g s d (l.map ofB) = (feedX st l).2.1 ∧ vev19_4 g s d (l.map ofB) = (feedX st l).2.2 ∧ vev19_5 g s d (l.map ofB) = true := by
  cases st with
  | none =>
    injection he with h1 he
    injection he with h2 h3
    subst h1 h2 h3
    unfold vev19_0 vev19_1 vev19_2 vev19_3 vev19_4 vev19_5
    exact ⟨rfl, rfl, rfl, rfl⟩
  | some p =>
    obtain ⟨g0, s0⟩ := p
    obtain ⟨hm, hs⟩ := h
    injection he with h1 he
    injection he with h2 h3
    subst h1 h2 h3
    obtain ⟨k1, k2⟩ := feed19 (l := l) hm (by omega) hl
    unfold feedM at k1
    unfold feedX
    dsimp only
    cases hg : greetM g0 l with
    | none =>
      rw [hg] at k1
      injection k1 with a0 k1
      injection k1 with a1 k1
      injection k1 with a2 k1
      injection k1 with a3 a4
      rw [a0, a1, a2, a3, a4, k2]
      exact ⟨rfl, rfl, rfl, rfl⟩
    | some q =>
      rw [hg] at k1
      dsimp only at k1 ⊢
      by_cases hw : whole (cutF (s ++ q.2)).2 < 0
      · rw [if_pos hw] at k1 ⊢
        injection k1 with a0 k1
        injection k1 with a1 k1
        injection k1 with a2 k1
        injection k1 with a3 a4
        rw [a0, a1, a2, a3, a4, k2]
        exact ⟨rfl, rfl, rfl, rfl⟩
      · rw [if_neg hw] at k1 ⊢
        injection k1 with a0 k1
        injection k1 with a1 k1
        injection k1 with a2 k1
        injection k1 with a3 a4
        rw [a0, a1, a2, a3, a4, k2]
        exact ⟨rfl, rfl, rfl, rfl⟩
theorem check_enc {st : Sto} {n : Nat} (h : okS st n) (hn : n ≤ 40000) {g : Int} {s : List UInt8} {d : Bool} (he : (g, s, d) = encS st) : vev23_0 g s d = 0 ∧ vev33_5 s = true := by
  cases st with
  | none =>
    injection he with h1 he
    injection he with h2 h3
    subst h1 h2 h3
    exact ⟨by kernel_rfl, head_ok (by simp)⟩
  | some p =>
    obtain ⟨g0, s0⟩ := p
    obtain ⟨hm, hs⟩ := h
    injection he with h1 he
    injection he with h2 h3
    subst h1 h2 h3
    exact ⟨by rw [ck_same (by omega)]; exact hm.check (by omega), head_ok (by omega)⟩
theorem r22t {tk : Tk} {es : List (List AV)} (hl : es.length ≤ 1000000) : vev22t_0 tk es = es.map fit5 ∧ vev22t_1 tk es = true := by
  have h := Ends.count (go := g22t_3 (tk, es)) (next := n22t_3 (tk, es)) es.length (fun i => ((i : Int), (es.take i).map fit5)) (fun i hi => ?_) ?_
  · have hf := h.fin
    have e0 : (((0 : Nat) : Int), (es.take 0).map fit5) = ((0 : Int), []) := rfl
    rw [e0] at hf
    unfold vev22t_0 vev22t_1 rev22t_0
    simp only [spI]
    rw [hf.1, hf.2, List.take_length]
    refine ⟨rfl, ?_⟩
    unfold z22t_3 xc22t_3_0
    dsimp only
    rw [decide_eq_false (by omega)]
    rfl
  · have hlen : ((es.take i).map fit5).length = i := by simp; omega
    refine ⟨?_, ?_⟩
    · unfold g22t_3 go22t_3
      dsimp only
      rw [hlen, decide_eq_true (show (i : Int) < (es.length : Int) by omega), decide_eq_true (show (0 : Int) ≤ (i : Int) by omega), decide_eq_true (show (i + 1) * 40 ≤ 140737488355328 by omega), decide_eq_true (show i + 1 ≤ 9223372036854775807 by omega)]
      rfl
    · unfold n22t_3 nx22t_3_2 nx22t_3_3
      dsimp only
      rw [Int.toNat_natCast, wrapN i es.length hi (by omega), Gv.take_step [] hi, List.map_append]
      rfl
  · unfold g22t_3 go22t_3
    dsimp only
    rw [decide_eq_false (by omega)]
    rfl
theorem e7 (bs : List (List AV)) (hb : ∀ x ∈ bs, okKL [.int .u8] x) (m n : Int) (hm : 0 ≤ m ∧ m ≤ 65535) (hn : 0 ≤ n ∧ n ≤ 65535) : vev7_0 bs m n = true ∧ vev7_1 bs m n = true := by
  unfold vev7_0 vev7_1
  by_cases hc : ((↑bs.length : Int) > (400 : Int))
  · rw [decide_eq_true hc, cond_true, cond_true]
    exact ⟨by kernel_rfl, rfl⟩
  · rw [decide_eq_false hc, cond_false, cond_false]
    have hr := byRows hb
    generalize hL : bs.map byteOf = L at hr
    have hLl : L.length ≤ 400 := by rw [← hL, List.length_map]; omega
    subst hr
    clear hL hb
    have q0 : rev7_0 (L.map ofB) m n = (L.length : Int) + 1 := by
      unfold rev7_0
      rw [List.length_map, wrapOf _ (by omega) (by omega)]
    obtain ⟨i, hi⟩ := Int.eq_ofNat_of_zero_le (Int.emod_nonneg m (show (L.length : Int) + 1 ≠ 0 by omega))
    have hi2 := Int.emod_lt_of_pos m (show 0 < (L.length : Int) + 1 by omega)
    have q1 : rev7_1 (L.map ofB) m n = (i : Int) := by
      unfold rev7_1
      rw [q0, wrapOf m (by omega) (by omega), Int.tmod_eq_emod_of_nonneg hm.1, hi]
    have q2 : rev7_2 (L.map ofB) m n = (L.length : Int) - (i : Int) + 1 := by
      unfold rev7_2
      rw [q1, List.length_map, wrapOf ((L.length : Int) - (i : Int)) (by omega) (by omega), wrapOf _ (by omega) (by omega)]
    obtain ⟨j, hj⟩ := Int.eq_ofNat_of_zero_le (Int.emod_nonneg n (show (L.length : Int) - (i : Int) + 1 ≠ 0 by omega))
    have hj2 := Int.emod_lt_of_pos n (show 0 < (L.length : Int) - (i : Int) + 1 by omega)
    have q4 : rev7_4 (L.map ofB) m n = ((i + j : Nat) : Int) := by
      unfold rev7_4
      rw [q1, q2, wrapOf n (by omega) (by omega), Int.tmod_eq_emod_of_nonneg hn.1, hj, wrapOf _ (by omega) (by omega)]
      omega
    have q3 : rev7_3 (L.map ofB) m n = (L.take i).map ofB := by
      unfold rev7_3
      rw [q1, Int.toNat_natCast, List.map_take]
    have q7 : rev7_7 (L.map ofB) m n = ((L.take (i + j)).drop i).map ofB := by
      unfold rev7_7
      rw [q1, q4, Int.toNat_natCast, Int.toNat_natCast, List.map_drop, List.map_take]
    have q10 : rev7_10 (L.map ofB) m n = (L.drop (i + j)).map ofB := by
      unfold rev7_10
      rw [q4, Int.toNat_natCast, List.map_drop]
    have ok0 : okS (some (0, [])) 0 := ⟨⟨by omega, fun _ => rfl, rfl⟩, Nat.le_refl _⟩
    have l1 : (L.take i).length ≤ 400 := by rw [List.length_take]; omega
    have l2 : ((L.take (i + j)).drop i).length ≤ 400 := by rw [List.length_drop, List.length_take]; omega
    have l3 : (L.drop (i + j)).length ≤ 400 := by rw [List.length_drop]; omega
    -- the whole
    obtain ⟨A1, A2, A3, A4⟩ := feedX19 ok0 (by omega) (l := L) (by omega) (show ((0 : Int), [], false) = encS (some (0, [])) from rfl)
    -- the pieces
    obtain ⟨B1, B2, B3, B4⟩ := feedX19 ok0 (by omega) (l := L.take i) (by omega) (show ((0 : Int), [], false) = encS (some (0, [])) from rfl)
    obtain ⟨okA, cA, fA, nA⟩ := feedX_ok (l := L) ok0
    obtain ⟨okB, cB, fB, nB⟩ := feedX_ok (l := L.take i) ok0
    generalize hS1 : feedX (some (0, [])) (L.take i) = S1 at *
    obtain ⟨st1, rows1, code1⟩ := S1
    obtain ⟨C1, C2, C3, C4⟩ := feedX19 okB (by omega) (l := (L.take (i + j)).drop i) (by omega) B1
    obtain ⟨okC, cC, fC, nC⟩ := feedX_ok (l := (L.take (i + j)).drop i) okB
    dsimp only at okB cB fB nB C1 C2 C3 C4 okC cC fC nC B1 B2 B3
    generalize hS2 : feedX st1 ((L.take (i + j)).drop i) = S2 at *
    obtain ⟨st2, rows2, code2⟩ := S2
    obtain ⟨D1, D2, D3, D4⟩ := feedX19 okC (by omega) (l := L.drop (i + j)) (by omega) C1
    obtain ⟨okD, cD, fD, nD⟩ := feedX_ok (l := L.drop (i + j)) okC
    dsimp only at okC cC fC nC D1 D2 D3 D4 okD cD fD nD C2 C3
    generalize hS3 : feedX st2 (L.drop (i + j)) = S3 at *
    obtain ⟨st3, rows3, code3⟩ := S3
    have hsplit : L = L.take i ++ ((L.take (i + j)).drop i ++ L.drop (i + j)) := by
      have e1 : L.take i = (L.take (i + j)).take i := by rw [List.take_take, Nat.min_eq_left (by omega)]
      rw [← List.append_assoc]
      conv => rhs; rw [e1, List.take_append_drop, List.take_append_drop]
    have hall : feedX (some (0, [])) L = (st3, rows1 ++ (rows2 ++ rows3), code1 + (code2 + code3)) := by
      conv => lhs; rw [hsplit]
      rw [feedX_append ok0, hS1]
      dsimp only
      rw [feedX_append okB, hS2]
      dsimp only
      rw [hS3]
    rw [hall] at A1 A2 A3 okA cA fA nA
    dsimp only at A1 A2 A3 okA cA fA nA D1 D2 D3 okD cD fD nD
    have q5 : rev7_5 (L.map ofB) m n = vev19_0 0 [] false ((L.take i).map ofB) := by unfold rev7_5; rw [q3, nil_eq]
    have q6 : rev7_6 (L.map ofB) m n = vev19_1 0 [] false ((L.take i).map ofB) := by unfold rev7_6; rw [q3, nil_eq]
    have q8 : rev7_8 (L.map ofB) m n = vev19_0 (vev19_0 0 [] false ((L.take i).map ofB)) (vev19_1 0 [] false ((L.take i).map ofB)) (vev19_2 0 [] false ((L.take i).map ofB)) (((L.take (i + j)).drop i).map ofB) := by unfold rev7_8; rw [q5, q6, q3, q7, nil_eq]
    have q9 : rev7_9 (L.map ofB) m n = vev19_1 (vev19_0 0 [] false ((L.take i).map ofB)) (vev19_1 0 [] false ((L.take i).map ofB)) (vev19_2 0 [] false ((L.take i).map ofB)) (((L.take (i + j)).drop i).map ofB) := by unfold rev7_9; rw [q5, q6, q3, q7, nil_eq]
    have q11 : rev7_11 (L.map ofB) m n = rows1 := by unfold rev7_11; rw [q3, nil_eq, B2]
    have q12 : rev7_12 (L.map ofB) m n = rows1 := by unfold rev7_12; rw [q11]; rfl
    have q13 : rev7_13 (L.map ofB) m n = rows2 := by unfold rev7_13; rw [q5, q6, q3, q7, nil_eq, C2]
    have q14 : rev7_14 (L.map ofB) m n = rows1 ++ rows2 := by unfold rev7_14; rw [q12, q13]
    have q15 : rev7_15 (L.map ofB) m n = rows3 := by unfold rev7_15; rw [q8, q9, q5, q6, q3, q7, q10, nil_eq, D2]
    have q16 : rev7_16 (L.map ofB) m n = (encS st3).1 := by unfold rev7_16; rw [q8, q9, q5, q6, q3, q7, q10, nil_eq]; exact congrArg (fun p => p.1) D1
    have q17 : rev7_17 (L.map ofB) m n = (encS st3).2.1 := by unfold rev7_17; rw [q8, q9, q5, q6, q3, q7, q10, nil_eq]; exact congrArg (fun p => p.2.1) D1
    have q18 : rev7_18 (L.map ofB) m n = rows1 ++ (rows2 ++ rows3) := by unfold rev7_18; rw [q14, q15, List.append_assoc]
    have q19 : rev7_19 (L.map ofB) m n = rows1 ++ (rows2 ++ rows3) := by unfold rev7_19; rw [nil_eq, A2]
    have k22 := r22t (tk := Tk.lent) (es := rows1 ++ (rows2 ++ rows3)) (by omega)
    have k22' := r22t (tk := Tk.imm) (es := rows1 ++ (rows2 ++ rows3)) (by omega)
    rw [map_fit5 fA] at k22 k22'
    have q20 : rev7_20 (L.map ofB) m n = rows1 ++ (rows2 ++ rows3) := by unfold rev7_20; rw [q18, k22.1]
    have q21 : rev7_21 (L.map ofB) m n = rows1 ++ (rows2 ++ rows3) := by unfold rev7_21; rw [q19, k22'.1]
    have k21 := r21 (t1 := Tk.imm) (t2 := Tk.imm) (l := rows1 ++ (rows2 ++ rows3)) (by omega)
    have x0 : vev19_0 0 [] false (L.map ofB) = (encS st3).1 := congrArg (fun p => p.1) A1
    have x1 : vev19_1 0 [] false (L.map ofB) = (encS st3).2.1 := congrArg (fun p => p.2.1) A1
    have x2 : vev19_2 0 [] false (L.map ofB) = (encS st3).2.2 := congrArg (fun p => p.2.2) A1
    have y2 : vev19_2 (rev7_8 (L.map ofB) m n) (rev7_9 (L.map ofB) m n) (vev19_2 (rev7_5 (L.map ofB) m n) (rev7_6 (L.map ofB) m n) (vev19_2 0 [] false ((L.take i).map ofB)) (((L.take (i + j)).drop i).map ofB)) ((L.drop (i + j)).map ofB) = (encS st3).2.2 := by
      rw [q8, q9, q5, q6]; exact congrArg (fun p => p.2.2) D1
    have ck := check_enc okD (by omega) (show ((encS st3).1, (encS st3).2.1, (encS st3).2.2) = encS st3 from rfl)
    have hcode : IntKind.u32.wrap (IntKind.u32.wrap (code1 + code2) + code3) = code1 + (code2 + code3) := by
      rw [wrapU (code1 + code2) (by omega) (by omega), wrapU _ (by omega) (by omega)]
      omega
    have hn1 : rows1.length ≤ 1000 := by omega
    have hn2 : rows2.length ≤ 1000 := by omega
    have hn3 : rows3.length ≤ 2000 := by omega
    rw [nil_eq, q3, q7, q10, y2, q16, q17, x0, x1, x2, A3, A4, B3, B4, q20, q21, k21.1, k21.2, q18, q19, k22.2, k22'.2, ck.1, ck.2, q0, q1, q2, q4, q11, q12, q13, q14, q15]
    rw [q8, q9, q5, q6, C3, C4, D3, D4, hcode]
    have z1 : ((L.length : Int) + 1 == 0) = false := by simp; omega
    have z2 : ((L.length : Int) - (i : Int) + 1 == 0) = false := by simp; omega
    unfold bnd
    rw [z1, z2, List.length_map, List.length_append, decide_eq_true (show (0 : Int) ≤ (i : Int) by omega), decide_eq_true (show (i : Int) ≤ (L.length : Int) by omega), decide_eq_true (show (i : Int) ≤ ((i + j : Nat) : Int) by omega), decide_eq_true (show ((i + j : Nat) : Int) ≤ (L.length : Int) by omega), decide_eq_true (show (0 : Int) ≤ ((i + j : Nat) : Int) by omega), decide_eq_true (show (L.length : Int) ≤ (L.length : Int) by omega), decide_eq_true (show (0 : Int) ≤ 0 by omega),
      decide_eq_true (show (0 + rows1.length) * 40 ≤ 140737488355328 by omega), decide_eq_true (show 0 + rows1.length ≤ 9223372036854775807 by omega), decide_eq_true (show (rows1.length + rows2.length) * 40 ≤ 140737488355328 by omega), decide_eq_true (show rows1.length + rows2.length ≤ 9223372036854775807 by omega), decide_eq_true (show (rows1.length + rows2.length + rows3.length) * 40 ≤ 140737488355328 by omega), decide_eq_true (show rows1.length + rows2.length + rows3.length ≤ 9223372036854775807 by omega)]
    simp only [beq_self_eq_true, Bool.and_self, cond_true, Bool.not_false]
    exact ⟨trivial, trivial⟩
theorem law7 (bs : List (List AV)) (hb : ∀ x ∈ bs, okKL [.int .u8] x) {m n : Int} (hm : (Lit.int .u16 m).wf = true) (hn : (Lit.int .u16 n).wf = true) : FnOK Try.prog 7 [.sl .imm [.int .u8] bs, .int .u16 m, .int .u16 n] [] (.bool true) [] := by
  have hm' : 0 ≤ m ∧ m ≤ 65535 := by
    have h2 : (decide (0 ≤ m) && decide (m ≤ 65535)) = true := hm
    simpa using h2
  have hn' : 0 ≤ n ∧ n ≤ 65535 := by
    have h2 : (decide (0 ≤ n) && decide (n ≤ 65535)) = true := hn
    simpa using h2
  obtain ⟨h0, h1⟩ := e7 bs hb m n hm' hn'
  have he := ev7 bs m n
  rw [h1, h0, cond_true] at he
  exact (fn_ok mixed plain (gk_ok k22t_ok 30) Try.func7 (fun c _ => LoopsOK.none (fun _ _ => rfl) c) he).2
end Go.Proofs.Gv
