/-
Whole frames cut off a text, and the preface: split and its document do the same.
-/
import Derived.Test.YtcnbeijlcndjpaaGaSp2
import Derived.Test.YtcnbeijlcndjpaaGpSp
namespace Go.Proofs.Gv
open Go.Proofs
set_option linter.unusedVariables false
/-- Whole frames, and what is left. -/
def cutM : Nat → List UInt8 → List (List AV) × List UInt8
  | 0, s => ([], s)
  | n + 1, s => if 0 < whole s then (rowM s :: (cutM n (s.drop (whole s).toNat)).1, (cutM n (s.drop (whole s).toNat)).2) else ([], s)
theorem cutM_go {n : Nat} {s : List UInt8} (h : 0 < whole s) : cutM (n + 1) s = (rowM s :: (cutM n (s.drop (whole s).toNat)).1, (cutM n (s.drop (whole s).toNat)).2) := by
  rw [cutM, if_pos h]
theorem cutM_no {n : Nat} {s : List UInt8} (h : ¬ 0 < whole s) : cutM n s = ([], s) := by
  cases n with
  | zero => rfl
  | succ n => rw [cutM, if_neg h]
theorem whole_nil : whole [] = 0 := rfl
theorem drop_len {s : List UInt8} (h : 0 < whole s) : (s.drop (whole s).toNat).length + 9 ≤ s.length := by
  have h1 := whole_ge h
  have h2 := whole_le (s := s)
  rw [List.length_drop]
  omega
theorem cutM_fuel : ∀ (n m : Nat) (s : List UInt8), s.length ≤ n → s.length ≤ m → cutM n s = cutM m s := by
  intro n
  induction n with
  | zero =>
    intro m s h _
    have : s = [] := List.eq_nil_of_length_eq_zero (by omega)
    subst this
    rw [cutM_no (by rw [whole_nil]; omega), cutM_no (by rw [whole_nil]; omega)]
  | succ n ih =>
    intro m s h h'
    by_cases hw : 0 < whole s
    · have hd := drop_len hw
      cases m with
      | zero => omega
      | succ m => rw [cutM_go hw, cutM_go hw, ih m _ (by omega) (by omega)]
    · rw [cutM_no hw, cutM_no hw]
theorem cutM_end : ∀ (n : Nat) (s : List UInt8), s.length ≤ n → whole (cutM n s).2 ≤ 0 ∧ (cutM n s).2.length ≤ s.length ∧ (cutM n s).1.length ≤ s.length := by
  intro n
  induction n with
  | zero =>
    intro s h
    have : s = [] := List.eq_nil_of_length_eq_zero (by omega)
    subst this
    exact ⟨by rw [cutM]; exact Int.le_refl _, Nat.le_refl _, Nat.le_refl _⟩
  | succ n ih =>
    intro s h
    by_cases hw : 0 < whole s
    · have hd := drop_len hw
      obtain ⟨h1, h2, h3⟩ := ih (s.drop (whole s).toNat) (by omega)
      rw [cutM_go hw]
      exact ⟨h1, by dsimp only; omega, by simp only [List.length_cons]; omega⟩
    · rw [cutM_no hw]
      exact ⟨by dsimp only; omega, Nat.le_refl _, Nat.zero_le _⟩
/-- What a whole frame says. -/
theorem whole_pos {s : List UInt8} (h : 0 < whole s) : 9 ≤ s.length ∧ Ln s ≤ 16384 ∧ 9 + Ln s ≤ (s.length : Int) ∧ whole s = 9 + Ln s := by
  unfold whole at h ⊢
  split at h
  · omega
  · rename_i h1
    rw [if_neg h1]
    split at h
    · omega
    · rename_i h2
      rw [if_neg h2]
      split at h
      · omega
      · rename_i h3
        rw [if_neg h3]
        exact ⟨by omega, by omega, by omega, rfl⟩
theorem step31 {s : List UInt8} {out : List (List AV)} (hs : s.length ≤ 1000000) (ho : out.length ≤ 1000000) (h : 0 < whole s) :
    g31_2 () (s, out) = true ∧ n31_2 () (s, out) = (s.drop (whole s).toNat, out ++ [rowM s]) := by
  obtain ⟨h9, h1, h2, h3⟩ := whole_pos h
  obtain ⟨e0, e1, e2, e3, e4⟩ := head_code h9
  have hL := Ln_le s
  refine ⟨?_, ?_⟩
  · unfold g31_2 go31_2 bnd
    dsimp only
    rw [head_ok hs, e4, e0, wrapOf (9 + Ln s) (by omega) (by omega), decide_eq_false (show ¬ (Ln s > 16384) by omega), decide_eq_false (show ¬ ((s.length : Int) < 9 + Ln s) by omega), decide_eq_true (show (9 : Int) ≤ 9 + Ln s by omega), decide_eq_true (show 9 + Ln s ≤ (s.length : Int) by omega), decide_eq_true (show (0 : Int) ≤ 9 + Ln s by omega), decide_eq_true (show (out.length + 1) * 40 ≤ 140737488355328 by omega), decide_eq_true (show out.length + 1 ≤ 9223372036854775807 by omega), decide_eq_true (show (s.length : Int) ≤ (s.length : Int) by omega)]
    rfl
  · unfold n31_2 nx31_2_0 nx31_2_1
    dsimp only
    rw [e0, e1, e2, e3, wrapOf (9 + Ln s) (by omega) (by omega), ← h3]
    rfl
theorem stop31 {s : List UInt8} {out : List (List AV)} (hs : s.length ≤ 1000000) (h : ¬ 0 < whole s) :
    g31_2 () (s, out) = false ∧ xc31_2_0 s out = true ∧ xv31_2_0_0 s out = (if whole s < 0 then [] else s) ∧ xv31_2_0_1 s out = (if whole s < 0 then 6 else 0) := by
  have hL := Ln_le s
  unfold g31_2 go31_2 xc31_2_0 xv31_2_0_0 xv31_2_0_1
  dsimp only
  rw [head_ok hs]
  by_cases h9 : 9 ≤ s.length
  · obtain ⟨e0, e1, e2, e3, e4⟩ := head_code h9
    rw [e4, e0, wrapOf (9 + Ln s) (by omega) (by omega)]
    unfold whole at h ⊢
    rw [if_neg (show ¬ s.length < 9 by omega)] at h ⊢
    by_cases c1 : Ln s > 16384
    · rw [decide_eq_true c1, if_pos c1]
      exact ⟨rfl, rfl, rfl, rfl⟩
    · rw [if_neg c1] at h ⊢
      by_cases c2 : (s.length : Int) < 9 + Ln s
      · rw [decide_eq_false c1, if_pos c2, decide_eq_true c2]
        exact ⟨rfl, rfl, rfl, rfl⟩
      · rw [if_neg c2] at h
        omega
  · rw [(head_code' h9).2.2.2.2]
    unfold whole
    rw [if_pos (show s.length < 9 by omega)]
    exact ⟨rfl, rfl, rfl, rfl⟩
theorem ends31 : ∀ (n : Nat) (s : List UInt8) (out : List (List AV)), s.length ≤ n → n ≤ 100000 → out.length + s.length ≤ 1000000 → Ends (g31_2 ()) (n31_2 ()) (s, out) ((cutM n s).2, out ++ (cutM n s).1) := by
  intro n
  induction n with
  | zero =>
    intro s out h _ _
    have : s = [] := List.eq_nil_of_length_eq_zero (by omega)
    subst this
    rw [cutM_no (by rw [whole_nil]; omega), List.append_nil]
    exact Ends.stop (stop31 (by simp) (by rw [whole_nil]; omega)).1
  | succ n ih =>
    intro s out h hn ho
    by_cases hw : 0 < whole s
    · have hd := drop_len hw
      obtain ⟨h1, h2⟩ := step31 (out := out) (by omega) (by omega) hw
      refine Ends.step h1 ?_
      rw [h2, cutM_go hw]
      have := ih (s.drop (whole s).toNat) (out ++ [rowM s]) (by omega) (by omega) (by simp only [List.length_append, List.length_singleton]; omega)
      simpa only [List.append_assoc, List.singleton_append] using this
    · rw [cutM_no hw, List.append_nil]
      exact Ends.stop (stop31 (by omega) hw).1
/-- All whole frames, and what is left. -/
def cutF (s : List UInt8) : List (List AV) × List UInt8 := cutM s.length s
theorem r31 {s : List UInt8} (hs : s.length ≤ 100000) : vev31_0 s = (cutF s).1 ∧ vev31_1 s = (if whole (cutF s).2 < 0 then [] else (cutF s).2) ∧ vev31_2 s = (if whole (cutF s).2 < 0 then 6 else 0) ∧ vev31_3 s = true := by
  have h := (ends31 s.length s [] (Nat.le_refl _) hs (by simp; omega)).fin
  have he := cutM_end s.length s (Nat.le_refl _)
  rw [List.nil_append] at h
  unfold vev31_0 vev31_1 vev31_2 vev31_3 cutF
  simp only [spI]
  rw [h.2, h.1]
  obtain ⟨s1, s2, s3, s4⟩ := stop31 (s := (cutM s.length s).2) (out := (cutM s.length s).1) (by omega) (by omega)
  dsimp only
  rw [s3, s4]
  unfold z31_2
  dsimp only
  rw [s2]
  exact ⟨rfl, rfl, rfl, rfl⟩
section
variable {p0 : Int} {p1 : List UInt8} {p2 : Bool}
theorem step20 {s : List UInt8} {out : List (List AV)} (hs : s.length ≤ 1000000) (ho : out.length ≤ 1000000) (h : 0 < whole s) :
    g20_13 (p0, p1, p2) (s, out) = true ∧ n20_13 (p0, p1, p2) (s, out) = (s.drop (whole s).toNat, out ++ [rowM s]) := by
  obtain ⟨h9, h1, h2, h3⟩ := whole_pos h
  obtain ⟨e0, e1, e2, e3, e4, e5⟩ := head_ref h9
  have hL := Ln_le s
  have hw := r32 hs
  refine ⟨?_, ?_⟩
  · unfold g20_13 go20_13 bnd
    dsimp only
    rw [hw.1, hw.2, e5, decide_eq_true (show whole s > 0 by omega), decide_eq_true (show s.length ≤ 4611686018427387904 by omega), decide_eq_true (show (9 : Int) ≤ whole s by omega), decide_eq_true (show whole s ≤ (s.length : Int) by omega), decide_eq_true (show (0 : Int) ≤ whole s by omega), decide_eq_true (show (out.length + 1) * 40 ≤ 140737488355328 by omega), decide_eq_true (show out.length + 1 ≤ 9223372036854775807 by omega), decide_eq_true (show (s.length : Int) ≤ (s.length : Int) by omega)]
    rfl
  · unfold n20_13 nx20_13_4
    dsimp only
    rw [hw.1, e0, e1, e2, e3]
    rfl
theorem stop20 {s : List UInt8} {out : List (List AV)} (hs : s.length ≤ 1000000) (h : ¬ 0 < whole s) :
    g20_13 (p0, p1, p2) (s, out) = false ∧ xc20_13_0 s p0 p1 p2 out = true := by
  have hw := r32 hs
  unfold g20_13 go20_13 xc20_13_0
  dsimp only
  rw [hw.1, hw.2, decide_eq_false (show ¬ (whole s > 0) by omega)]
  exact ⟨rfl, rfl⟩
theorem ends20 : ∀ (n : Nat) (s : List UInt8) (out : List (List AV)), s.length ≤ n → n ≤ 100000 → out.length + s.length ≤ 1000000 → Ends (g20_13 (p0, p1, p2)) (n20_13 (p0, p1, p2)) (s, out) ((cutM n s).2, out ++ (cutM n s).1) := by
  intro n
  induction n with
  | zero =>
    intro s out h _ _
    have : s = [] := List.eq_nil_of_length_eq_zero (by omega)
    subst this
    rw [cutM_no (by rw [whole_nil]; omega), List.append_nil]
    exact Ends.stop (stop20 (by simp) (by rw [whole_nil]; omega)).1
  | succ n ih =>
    intro s out h hn ho
    by_cases hw : 0 < whole s
    · have hd := drop_len hw
      obtain ⟨h1, h2⟩ := step20 (p0 := p0) (p1 := p1) (p2 := p2) (out := out) (by omega) (by omega) hw
      refine Ends.step h1 ?_
      rw [h2, cutM_go hw]
      have := ih (s.drop (whole s).toNat) (out ++ [rowM s]) (by omega) (by omega) (by simp only [List.length_append, List.length_singleton]; omega)
      simpa only [List.append_assoc, List.singleton_append] using this
    · rw [cutM_no hw, List.append_nil]
      exact Ends.stop (stop20 (by omega) hw).1
end
/-- The preface. -/
def pf : List UInt8 := [80, 82, 73, 32, 42, 32, 72, 84, 84, 80, 47, 50, 46, 48, 13, 10, 13, 10, 83, 77, 13, 10, 13, 10]
theorem pf_eq : (ByteArray.mk #[(80 : UInt8), (82 : UInt8), (73 : UInt8), (32 : UInt8), (42 : UInt8), (32 : UInt8), (72 : UInt8), (84 : UInt8), (84 : UInt8), (80 : UInt8), (47 : UInt8), (50 : UInt8), (46 : UInt8), (48 : UInt8), (13 : UInt8), (10 : UInt8), (13 : UInt8), (10 : UInt8), (83 : UInt8), (77 : UInt8), (13 : UInt8), (10 : UInt8), (13 : UInt8), (10 : UInt8)]).data.toList = pf := rfl
theorem pf_len : pf.length = 24 := rfl
def greetM : Nat → List UInt8 → Option (Nat × List UInt8)
  | g, [] => some (g, [])
  | g, b :: bs => if g < 24 then (if b = pf.getD g 0 then greetM (g + 1) bs else none) else some (g, b :: bs)
/-- How many bytes of the preface there are. -/
def gN (g : Nat) (l : List UInt8) : Nat := min l.length (24 - g)
theorem greet_some : ∀ (l : List UInt8) (g : Nat), (∀ i, i < gN g l → l.getD i 0 = pf.getD (g + i) 0) → greetM g l = some (g + gN g l, l.drop (gN g l)) := by
  intro l
  induction l with
  | nil => intro g _; simp [greetM, gN]
  | cons b l ih =>
    intro g h
    by_cases hg : g < 24
    · have e : gN g (b :: l) = gN (g + 1) l + 1 := by simp only [gN, List.length_cons]; omega
      have h0 : b = pf.getD g 0 := by simpa using h 0 (by omega)
      rw [greetM, if_pos hg, if_pos h0, ih (g + 1) (fun i hi => ?_), e]
      · rw [List.drop_succ_cons, show g + 1 + gN (g + 1) l = g + (gN (g + 1) l + 1) by omega]
      · have := h (i + 1) (by omega)
        rw [show g + 1 + i = g + (i + 1) by omega]
        simpa using this
    · have e : gN g (b :: l) = 0 := by simp only [gN]; omega
      rw [greetM, if_neg hg, e]
      rfl
theorem greet_none : ∀ (i : Nat) (l : List UInt8) (g : Nat), i < gN g l → l.getD i 0 ≠ pf.getD (g + i) 0 → greetM g l = none := by
  intro i
  induction i with
  | zero =>
    intro l g hi h
    cases l with
    | nil => simp [gN] at hi
    | cons b l =>
      have hg : g < 24 := by simp only [gN, List.length_cons] at hi; omega
      rw [greetM, if_pos hg, if_neg (by simpa using h)]
  | succ i ih =>
    intro l g hi h
    cases l with
    | nil => simp [gN] at hi
    | cons b l =>
      have hg : g < 24 := by simp only [gN, List.length_cons] at hi; omega
      rw [greetM, if_pos hg]
      split
      · refine ih l (g + 1) (by simp only [gN, List.length_cons] at hi ⊢; omega) ?_
        rw [show g + 1 + i = g + (i + 1) by omega]
        simpa using h
      · rfl
/-- All bytes are right, or there is a first one that is not. -/
theorem greet_cases (g : Nat) (l : List UInt8) : (∀ i, i < gN g l → l.getD i 0 = pf.getD (g + i) 0) ∨ ∃ i, i < gN g l ∧ l.getD i 0 ≠ pf.getD (g + i) 0 ∧ ∀ j, j < i → l.getD j 0 = pf.getD (g + j) 0 := by
  by_cases h : ∃ i, i < gN g l ∧ l.getD i 0 ≠ pf.getD (g + i) 0
  · obtain ⟨i, ⟨h1, h2⟩, h3⟩ := least_of h
    refine .inr ⟨i, h1, h2, fun j hj => ?_⟩
    have := h3 j hj
    by_cases he : l.getD j 0 = pf.getD (g + j) 0
    · exact he
    · exact absurd ⟨by omega, he⟩ this
  · refine .inl fun i hi => ?_
    by_cases he : l.getD i 0 = pf.getD (g + i) 0
    · exact he
    · exact absurd ⟨i, hi, he⟩ h
theorem byte_ne (a b : UInt8) : (((a.toNat : Nat) : Int) != ((b.toNat : Nat) : Int)) = !decide (a = b) := by
  by_cases h : a = b
  · subst h; simp
  · have h1 : a.toNat ≠ b.toNat := fun he => h (UInt8.toNat_inj.1 he)
    have h2 : ((a.toNat : Nat) : Int) ≠ ((b.toNat : Nat) : Int) := by omega
    rw [decide_eq_false h, Bool.not_false]
    exact bne_iff_ne.2 h2
section
variable {g : Nat} {l : List UInt8} {s : List UInt8} {d : Bool}
theorem at30 {i : Nat} {n : Int} (hg : g ≤ 24) (hi : i < gN g l) (hl : l.length ≤ 1000000) (hn : n = (gN g l : Int)) :
    go30_3 (l.map ofB) n n (i : Int) (g : Int) s d = decide (l.getD i 0 = pf.getD (g + i) 0) ∧ xc30_3_0 (l.map ofB) n n (i : Int) (g : Int) s d = !decide (l.getD i 0 = pf.getD (g + i) 0) := by
  have h1 : i < l.length ∧ g + i < 24 := by unfold gN at hi; omega
  unfold go30_3 xc30_3_0
  rw [pf_eq, pf_len, List.length_map, hn, Int.toNat_natCast, gB h1.1, wrapOf _ (by omega) (by omega), decide_eq_true (show (i : Int) < (gN g l : Int) by omega), decide_eq_true (show (0 : Int) ≤ (i : Int) by omega), decide_eq_true (show (i : Int) < (l.length : Int) by omega), decide_eq_true (show (0 : Int) ≤ (g : Int) + (i : Int) by omega), decide_eq_true (show (g : Int) + (i : Int) < ((24 : Nat) : Int) by omega)]
  rw [show (g : Int) + (i : Int) = ((g + i : Nat) : Int) by omega, Int.toNat_natCast]
  unfold bA
  rw [byte_ne]
  cases decide (l.getD i 0 = pf.getD (g + i) 0) <;> exact ⟨rfl, rfl⟩
theorem end30 {n : Int} (hn : n = (gN g l : Int)) : go30_3 (l.map ofB) n n (gN g l : Int) (g : Int) s d = false ∧ xc30_3_0 (l.map ofB) n n (gN g l : Int) (g : Int) s d = false ∧ xc30_3_1 (l.map ofB) n n (gN g l : Int) (g : Int) s d = true := by
  unfold go30_3 xc30_3_0 xc30_3_1
  rw [decide_eq_false (by omega)]
  exact ⟨rfl, rfl, rfl⟩
theorem n30 (hg : g ≤ 24) (hl : l.length ≤ 1000000) : (if if false = true then ((l.map ofB).length : Int) < IntKind.i64.wrap ((24 : Int) - (g : Int)) else IntKind.i64.wrap ((24 : Int) - (g : Int)) < ((l.map ofB).length : Int) then IntKind.i64.wrap ((24 : Int) - (g : Int)) else ((l.map ofB).length : Int)) = (gN g l : Int) := by
  rw [List.length_map, wrapOf _ (by omega) (by omega)]
  unfold gN
  simp only [Bool.false_eq_true, if_false]
  split <;> omega
/-- What greet does. -/
theorem r30 (hg : g ≤ 24) (hl : l.length ≤ 1000000) : vev30_3 (g : Int) s d (l.map ofB) = true ∧
    match greetM g l with
    | some (g', r) => vev30_0 (g : Int) s d (l.map ofB) = r.map ofB ∧ vev30_1 (g : Int) s d (l.map ofB) = true ∧ vev30_2 (g : Int) s d (l.map ofB) = (g' : Int)
    | none => vev30_1 (g : Int) s d (l.map ofB) = false := by
  have hn := n30 hg hl
  unfold vev30_0 vev30_1 vev30_2 vev30_3
  simp only [spI]
  rw [hn]
  have hN : gN g l ≤ l.length := by unfold gN; omega
  rcases greet_cases g l with h | ⟨i, h1, h2, h3⟩
  · have he : Ends (g30_3 (l.map ofB, (gN g l : Int), (gN g l : Int), (g : Int), s, d)) (n30_3 (l.map ofB, (gN g l : Int), (gN g l : Int), (g : Int), s, d)) (0 : Int) (gN g l : Int) := by
      refine Ends.count (go := g30_3 (l.map ofB, (gN g l : Int), (gN g l : Int), (g : Int), s, d)) (next := n30_3 (l.map ofB, (gN g l : Int), (gN g l : Int), (g : Int), s, d)) (gN g l) (fun i => (i : Int)) (fun i hi => ⟨?_, ?_⟩) (end30 rfl).1
      · unfold g30_3
        dsimp only
        rw [(at30 hg hi hl rfl).1, decide_eq_true (h i hi)]
      · unfold n30_3 nx30_3_3
        exact wrapN i _ hi (by omega)
    have hf := he.fin
    rw [hf.1, hf.2, greet_some l g h, (end30 rfl).2.1]
    unfold z30_3 bnd
    dsimp only
    rw [(end30 rfl).2.2, List.length_map, decide_eq_true (show (0 : Int) ≤ (gN g l : Int) by omega), decide_eq_true (show (gN g l : Int) ≤ (l.length : Int) by omega), decide_eq_true (show (l.length : Int) ≤ (l.length : Int) by omega), Int.toNat_natCast, wrapOf _ (by unfold gN; omega) (by unfold gN; omega), Bool.or_true]
    refine ⟨rfl, ?_, rfl, ?_⟩
    · rw [cond_false, List.map_drop]
    · rw [cond_false]; omega
  · have he : Ends (g30_3 (l.map ofB, (gN g l : Int), (gN g l : Int), (g : Int), s, d)) (n30_3 (l.map ofB, (gN g l : Int), (gN g l : Int), (g : Int), s, d)) (0 : Int) (i : Int) := by
      refine Ends.count (go := g30_3 (l.map ofB, (gN g l : Int), (gN g l : Int), (g : Int), s, d)) (next := n30_3 (l.map ofB, (gN g l : Int), (gN g l : Int), (g : Int), s, d)) i (fun i => (i : Int)) (fun j hj => ⟨?_, ?_⟩) ?_
      · unfold g30_3
        dsimp only
        rw [(at30 hg (by omega) hl rfl).1, decide_eq_true (h3 j hj)]
      · unfold n30_3 nx30_3_3
        exact wrapN j _ hj (by omega)
      · unfold g30_3
        dsimp only
        rw [(at30 hg h1 hl rfl).1, decide_eq_false h2]
    have hf := he.fin
    rw [hf.1, hf.2, greet_none i l g h1 h2, (at30 hg h1 hl rfl).2, decide_eq_false h2]
    unfold y30_3
    dsimp only
    rw [(at30 hg h1 hl rfl).2, decide_eq_false h2]
    exact ⟨rfl, rfl⟩
end
end Go.Proofs.Gv
