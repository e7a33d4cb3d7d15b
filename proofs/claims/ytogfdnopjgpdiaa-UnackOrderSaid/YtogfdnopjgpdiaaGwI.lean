/-
Loops that look for the first place where something holds. It holds for every program.
-/
import Derived.Test.YtogfdnopjgpdiaaGwG
namespace Go.Proofs.Gv
theorem wrap64 (x : Int) (h0 : -9223372036854775808 ≤ x) (h1 : x ≤ 9223372036854775807) : IntKind.i64.wrap x = x := by
  rw [IntKind.wrap_i64]; omega
theorem step64 (i N : Nat) (h : i < N) (hN : N ≤ 9223372036854775807) : IntKind.i64.wrap ((i : Int) + 1) = ((i + 1 : Nat) : Int) := by
  rw [wrap64 _ (by omega) (by omega)]; rfl
/-- The first place, from s on and below N, where P holds; if there is none: N, or s. -/
def fs (P : Nat → Bool) (s N : Nat) : Nat := s + (List.range (N - s)).findIdx (fun j => P (s + j))
def hasF (P : Nat → Bool) (s N : Nat) : Bool := decide (fs P s N < N)
variable {P Q : Nat → Bool} {s N i j k : Nat}
theorem fs_ge : s ≤ fs P s N := Nat.le_add_right _ _
theorem fs_le (h : s ≤ N) : fs P s N ≤ N := by
  have h1 := List.findIdx_le_length (p := fun j => P (s + j)) (xs := List.range (N - s))
  rw [List.length_range] at h1
  unfold fs
  omega
theorem fs_max : fs P s N ≤ max s N := by
  have h1 := List.findIdx_le_length (p := fun j => P (s + j)) (xs := List.range (N - s))
  rw [List.length_range] at h1
  unfold fs
  omega
theorem fs_hit (h : fs P s N < N) : P (fs P s N) = true := by
  unfold fs at h ⊢
  have h1 : (List.range (N - s)).findIdx (fun j => P (s + j)) < (List.range (N - s)).length := by rw [List.length_range]; omega
  have h2 := List.findIdx_getElem (w := h1)
  rw [List.getElem_range] at h2
  exact h2
theorem fs_miss (hs : s ≤ j) (h : j < fs P s N) : P j = false := by
  have h2 := List.not_of_lt_findIdx (p := fun j => P (s + j)) (xs := List.range (N - s)) (i := j - s) (by unfold fs at h; omega)
  rw [List.getElem_range] at h2
  rw [show s + (j - s) = j by omega] at h2
  simpa using h2
theorem fs_of (h0 : s ≤ k) (h1 : k ≤ max s N) (h2 : k < N → P k = true) (h3 : ∀ j, s ≤ j → j < k → P j = false) : fs P s N = k := by
  have h4 := fs_max (P := P) (s := s) (N := N)
  rcases Nat.lt_trichotomy (fs P s N) k with h | h | h
  · by_cases hk : fs P s N < N
    · have := fs_hit hk
      rw [h3 _ fs_ge h] at this
      cases this
    · have := fs_ge (P := P) (s := s) (N := N)
      omega
  · exact h
  · have := fs_miss h0 h
    by_cases hk : k < N
    · rw [h2 hk] at this; cases this
    · omega
theorem fs_congr (h : ∀ i, s ≤ i → i < N → P i = Q i) : fs P s N = fs Q s N :=
  fs_of fs_ge fs_max (fun hk => by rw [h _ fs_ge hk]; exact fs_hit hk) (fun j hs hj => by
    have := fs_max (P := Q) (s := s) (N := N)
    by_cases hj2 : j < N
    · rw [h j hs hj2]; exact fs_miss hs hj
    · omega)
theorem hasF_congr (h : ∀ i, s ≤ i → i < N → P i = Q i) : hasF P s N = hasF Q s N := by unfold hasF; rw [fs_congr h]
theorem hasF_iff : hasF P s N = true ↔ ∃ i, s ≤ i ∧ i < N ∧ P i = true := by
  unfold hasF
  constructor
  · intro h
    have h := of_decide_eq_true h
    exact ⟨_, fs_ge, h, fs_hit h⟩
  · rintro ⟨i, h1, h2, h3⟩
    refine decide_eq_true ?_
    by_cases h : fs P s N ≤ i
    · omega
    · rw [fs_miss (P := P) (N := N) h1 (by omega)] at h3; cases h3
theorem hasF_no : hasF P s N = false ↔ ∀ i, s ≤ i → i < N → P i = false := by
  constructor
  · intro h i h1 h2
    cases hp : P i with
    | false => rfl
    | true => rw [hasF_iff.2 ⟨i, h1, h2, hp⟩] at h; cases h
  · intro h
    cases hp : hasF P s N with
    | false => rfl
    | true =>
      obtain ⟨i, h1, h2, h3⟩ := hasF_iff.1 hp
      rw [h i h1 h2] at h3
      cases h3
theorem hasF_fs : fs P s N < N ↔ hasF P s N = true := by
  unfold hasF
  exact decide_eq_true_iff.symm
/-- A loop that looks for a place. -/
theorem Ends.seek {go : Int → Bool} {next : Int → Int} (P : Nat → Bool) (s N : Nat) (hg : ∀ i : Nat, s ≤ i → i ≤ max s N → go (i : Int) = (decide (i < N) && !P i)) (hn : ∀ i : Nat, i < N → next (i : Int) = ((i + 1 : Nat) : Int)) : Ends go next (s : Int) ((fs P s N : Nat) : Int) := by
  have hm := fs_max (P := P) (s := s) (N := N)
  have h := Ends.count (go := go) (next := next) (fs P s N - s) (fun i => ((s + i : Nat) : Int)) (fun i hi => by
    have hlt : s + i < N := by omega
    refine ⟨?_, hn _ hlt⟩
    rw [hg _ (by omega) (by omega), decide_eq_true hlt, fs_miss (P := P) (N := N) (s := s) (by omega) (by omega)]
    rfl) (by
    have hge := fs_ge (P := P) (s := s) (N := N)
    rw [show s + (fs P s N - s) = fs P s N by omega, hg _ hge hm]
    by_cases h2 : fs P s N < N
    · rw [fs_hit h2, Bool.not_true, Bool.and_false]
    · rw [decide_eq_false h2, Bool.false_and])
  rw [show s + (fs P s N - s) = fs P s N by have := fs_ge (P := P) (s := s) (N := N); omega] at h
  exact h
/-- All of such a loop. -/
theorem seek {β : Type} {go : β → Int → Bool} {next : β → Int → Int} {alts : β → Int → List (Bool × Out)} {dB : β → Int → Bool} {d : β → Int → Out} {p : β} (P : Nat → Bool) (s N : Nat) (x : Int → Bool)
    (hg : ∀ i : Nat, s ≤ i → i ≤ max s N → go p (i : Int) = (decide (i < N) && !P i)) (hn : ∀ i : Nat, i < N → next p (i : Int) = ((i + 1 : Nat) : Int))
    (hx : ∀ i : Nat, s ≤ i → i ≤ max s N → x (i : Int) = (decide (i < N) && P i)) (hy : ∀ i : Int, (alts p i).any (fun q => q.1) = x i) (hz : ∀ i : Nat, dB p (i : Int) = !decide (i < N)) :
    finL (go p) (next p) (s : Int) = ((fs P s N : Nat) : Int) ∧ (spI go next alts dB d (p, (s : Int))).fst = true ∧ x ((fs P s N : Nat) : Int) = hasF P s N := by
  have h := (Ends.seek P s N hg hn).fin
  refine ⟨h.2, ?_, ?_⟩
  · simp only [spI]
    rw [h.2, h.1, Bool.true_and, hy, hz, hx _ fs_ge fs_max]
    by_cases h2 : fs P s N < N
    · rw [fs_hit h2, decide_eq_true h2]; rfl
    · rw [decide_eq_false h2]; rfl
  · rw [hx _ fs_ge fs_max]
    unfold hasF
    by_cases h2 : fs P s N < N
    · rw [fs_hit h2, decide_eq_true h2]; rfl
    · rw [decide_eq_false h2]; rfl
theorem dlt {i N : Nat} : decide ((i : Int) < (N : Int)) = decide (i < N) := decide_eq_decide.2 (by omega)
theorem dge {i : Nat} : decide ((0 : Int) ≤ (i : Int)) = true := decide_eq_true (by omega)
/-- A number in a list of numbers. -/
def at0 (es : List (List AV)) (i : Nat) : Int := intOf ((es.getD i []).getD 0 .junk)
theorem at0_take {es : List (List AV)} {i k : Nat} (h : i < k) : at0 (es.take k) i = at0 es i := by
  unfold at0
  simp only [List.getD_eq_getElem?_getD]
  rw [List.getElem?_take_of_lt h]
/-- Is a number in a list? -/
def inn (es : List (List AV)) (n : Int) : Bool := hasF (fun i => at0 es i == n) 0 es.length
theorem inn_iff {es : List (List AV)} {n : Int} : inn es n = true ↔ ∃ i, i < es.length ∧ at0 es i = n := by
  unfold inn
  rw [hasF_iff]
  constructor
  · rintro ⟨i, _, h2, h3⟩; exact ⟨i, h2, by simpa using h3⟩
  · rintro ⟨i, h2, h3⟩; exact ⟨i, Nat.zero_le _, h2, by simpa using h3⟩
theorem inn_no {es : List (List AV)} {n : Int} : inn es n = false ↔ ∀ i, i < es.length → at0 es i ≠ n := by
  constructor
  · intro h i hi he
    rw [inn_iff.2 ⟨i, hi, he⟩] at h
    cases h
  · intro h
    cases hc : inn es n with
    | false => rfl
    | true =>
      obtain ⟨i, hi, he⟩ := inn_iff.1 hc
      exact absurd he (h i hi)
end Go.Proofs.Gv
