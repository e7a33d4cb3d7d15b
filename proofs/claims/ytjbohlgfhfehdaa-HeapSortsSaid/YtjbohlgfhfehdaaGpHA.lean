/-
Heaps: lists of items in which none is less than the one above it; how an item rises and sinks.
-/
import Derived.Test.YtjbohlgfhfehdaaGwF
namespace Go.Proofs.Gv
open List (Perm)
abbrev It := Int × Int
def ltI (a b : It) : Bool := decide (a.1 < b.1) || (a.1 == b.1 && decide (a.2 < b.2))
theorem ltI_iff {a b : It} : ltI a b = true ↔ a.1 < b.1 ∨ (a.1 = b.1 ∧ a.2 < b.2) := by simp [ltI]
theorem ltI_not {a b : It} : ltI a b = false ↔ ¬ (a.1 < b.1 ∨ (a.1 = b.1 ∧ a.2 < b.2)) := by rw [← ltI_iff]; simp
theorem ltI_irr (a : It) : ltI a a = false := by rw [ltI_not]; omega
theorem ltI_asym {a b : It} (h : ltI a b = true) : ltI b a = false := by rw [ltI_iff] at h; rw [ltI_not]; omega
theorem leI_trans {a b c : It} (h : ltI b a = false) (k : ltI c b = false) : ltI c a = false := by rw [ltI_not] at *; omega
theorem lt_leI_trans {a b c : It} (h : ltI a b = true) (k : ltI c b = false) : ltI a c = true := by rw [ltI_iff] at *; rw [ltI_not] at k; omega
theorem leI_antisymm {a b : It} (h : ltI b a = false) (k : ltI a b = false) : a = b := by
  rw [ltI_not] at *
  obtain ⟨a1, a2⟩ := a
  obtain ⟨b1, b2⟩ := b
  simp only at h k
  have : a1 = b1 := by omega
  have : a2 = b2 := by omega
  simp [*]
def at' (l : List It) (k : Nat) : It := l.getD k (0, 0)
theorem at_lt {l : List It} {k : Nat} (h : k < l.length) : at' l k = l[k] := by simp [at', List.getD, h]
theorem at_mem {l : List It} {k : Nat} (h : k < l.length) : at' l k ∈ l := by rw [at_lt h]; exact List.getElem_mem h
theorem at_set {l : List It} {i k : Nat} {x : It} (h : i < l.length) : at' (l.set i x) k = if k = i then x else at' l k := by
  unfold at' List.getD
  rw [List.getElem?_set]
  by_cases e : i = k
  · subst e; simp [h]
  · rw [if_neg e, if_neg (Ne.symm e)]
def swapL (l : List It) (i j : Nat) : List It := (l.set i (at' l j)).set j (at' l i)
theorem swapL_len (l : List It) (i j : Nat) : (swapL l i j).length = l.length := by simp [swapL]
theorem at_swap {l : List It} {i j k : Nat} (hi : i < l.length) (hj : j < l.length) : at' (swapL l i j) k = if k = j then at' l i else if k = i then at' l j else at' l k := by
  unfold swapL
  rw [at_set (by simpa using hj), at_set hi]
theorem swap_perm {l : List It} {i j : Nat} (hi : i < l.length) (hj : j < l.length) : Perm (swapL l i j) l := by
  unfold swapL
  rw [at_lt hi, at_lt hj]
  exact List.set_set_perm hi hj
def okAt (l : List It) (k : Nat) : Prop := ltI (at' l k) (at' l ((k - 1) / 2)) = false
def HeapL (l : List It) : Prop := ∀ k, 0 < k → k < l.length → okAt l k
/-- An item rises. -/
def goU (s : List It × Nat) : Bool := decide (0 < s.2) && ltI (at' s.1 s.2) (at' s.1 ((s.2 - 1) / 2))
def nxU (s : List It × Nat) : List It × Nat := (swapL s.1 s.2 ((s.2 - 1) / 2), (s.2 - 1) / 2)
/-- All is well but for one item, which may be less than the one above. -/
def UpInv (l : List It) (i : Nat) : Prop := (∀ k, 0 < k → k < l.length → k ≠ i → okAt l k) ∧ (∀ c, 0 < c → c < l.length → (c - 1) / 2 = i → 0 < i → ltI (at' l c) (at' l ((i - 1) / 2)) = false)
theorem up_ends : ∀ (i : Nat) (l : List It), i < l.length → UpInv l i → ∃ r j, Ends goU nxU (l, i) (r, j) ∧ Perm r l ∧ HeapL r := by
  intro i
  induction i using Nat.strongRecOn with
  | _ i ih =>
    intro l hi h
    obtain ⟨h1, h2⟩ := h
    cases hg : goU (l, i) with
    | false =>
      refine ⟨l, i, Ends.stop hg, Perm.refl _, fun k hk hkl => ?_⟩
      by_cases e : k = i
      · subst e
        unfold goU at hg
        simp only [hk, decide_true, Bool.true_and] at hg
        exact hg
      · exact h1 k hk hkl e
    | true =>
      have hg' := hg
      unfold goU at hg'
      simp only [Bool.and_eq_true, decide_eq_true_eq] at hg'
      obtain ⟨hp, hlt⟩ := hg'
      have hpl : (i - 1) / 2 < l.length := by omega
      have hle := ltI_asym hlt
      obtain ⟨r, j, he, hpm, hh⟩ := ih ((i - 1) / 2) (by omega) (swapL l i ((i - 1) / 2)) (by rw [swapL_len]; exact hpl) (by
        refine ⟨fun k hk hkl hkn => ?_, fun c hc hcl hcp hpp => ?_⟩
        · rw [swapL_len] at hkl
          unfold okAt
          rw [at_swap hi hpl, at_swap hi hpl, if_neg hkn]
          by_cases e : k = i
          · subst e
            rw [if_pos rfl, if_pos rfl]
            exact hle
          · rw [if_neg e]
            by_cases e2 : (k - 1) / 2 = (i - 1) / 2
            · rw [if_pos e2]
              have := h1 k hk hkl e
              unfold okAt at this
              rw [e2] at this
              exact leI_trans (leI_trans (ltI_irr _) hle) this
            · rw [if_neg e2]
              by_cases e3 : (k - 1) / 2 = i
              · rw [if_pos e3]
                exact h2 k hk hkl e3 hp
              · rw [if_neg e3]
                exact h1 k hk hkl e
        · rw [swapL_len] at hcl
          have hq : (((i - 1) / 2 - 1) / 2) ≠ (i - 1) / 2 := by omega
          have hq2 : (((i - 1) / 2 - 1) / 2) ≠ i := by omega
          rw [at_swap hi hpl, at_swap hi hpl, if_neg hq, if_neg hq2]
          have hpo := h1 ((i - 1) / 2) hpp hpl (by omega)
          by_cases e : c = (i - 1) / 2
          · exfalso; omega
          · rw [if_neg e]
            by_cases e2 : c = i
            · rw [if_pos e2]
              exact hpo
            · rw [if_neg e2]
              have := h1 c hc hcl e2
              unfold okAt at this hpo
              rw [hcp] at this
              exact leI_trans hpo this)
      exact ⟨r, j, Ends.step hg he, hpm.trans (swap_perm hi hpl), hh⟩
/-- The least of an item and of those below it. -/
def leastD (l : List It) (i : Nat) : Nat :=
  let m := if 2 * i + 1 < l.length ∧ ltI (at' l (2 * i + 1)) (at' l i) = true then 2 * i + 1 else i
  if 2 * i + 2 < l.length ∧ ltI (at' l (2 * i + 2)) (at' l m) = true then 2 * i + 2 else m
def goD (s : List It × Nat) : Bool := !(leastD s.1 s.2 == s.2)
def nxD (s : List It × Nat) : List It × Nat := (swapL s.1 s.2 (leastD s.1 s.2), leastD s.1 s.2)
theorem leastD_cases (l : List It) (i : Nat) : (leastD l i = i ∧ (∀ c, 0 < c → c < l.length → (c - 1) / 2 = i → ltI (at' l c) (at' l i) = false)) ∨
    (i < leastD l i ∧ leastD l i < l.length ∧ (leastD l i - 1) / 2 = i ∧ ltI (at' l (leastD l i)) (at' l i) = true ∧ (∀ c, 0 < c → c < l.length → (c - 1) / 2 = i → ltI (at' l c) (at' l (leastD l i)) = false)) := by
  have hc : ∀ c, 0 < c → (c - 1) / 2 = i → c = 2 * i + 1 ∨ c = 2 * i + 2 := fun c h1 h2 => by omega
  unfold leastD
  by_cases h1 : 2 * i + 1 < l.length ∧ ltI (at' l (2 * i + 1)) (at' l i) = true
  · simp only [if_pos h1]
    by_cases h2 : 2 * i + 2 < l.length ∧ ltI (at' l (2 * i + 2)) (at' l (2 * i + 1)) = true
    · simp only [if_pos h2]
      right
      refine ⟨by omega, h2.1, by omega, ?_, fun c hp hl hcp => ?_⟩
      · exact lt_leI_trans h2.2 (ltI_asym h1.2)
      · rcases hc c hp hcp with e | e <;> subst e
        · exact ltI_asym h2.2
        · exact ltI_irr _
    · simp only [if_neg h2]
      right
      refine ⟨by omega, h1.1, by omega, h1.2, fun c hp hl hcp => ?_⟩
      rcases hc c hp hcp with e | e <;> subst e
      · exact ltI_irr _
      · cases hb : ltI (at' l (2 * i + 2)) (at' l (2 * i + 1)) with
        | false => rfl
        | true => exact absurd ⟨hl, hb⟩ h2
  · simp only [if_neg h1]
    by_cases h2 : 2 * i + 2 < l.length ∧ ltI (at' l (2 * i + 2)) (at' l i) = true
    · simp only [if_pos h2]
      right
      refine ⟨by omega, h2.1, by omega, h2.2, fun c hp hl hcp => ?_⟩
      rcases hc c hp hcp with e | e <;> subst e
      · cases hb : ltI (at' l (2 * i + 1)) (at' l i) with
        | true => exact absurd ⟨hl, hb⟩ h1
        | false => exact leI_trans (ltI_asym h2.2) hb
      · exact ltI_irr _
    · simp only [if_neg h2]
      left
      refine ⟨trivial, fun c hp hl hcp => ?_⟩
      rcases hc c hp hcp with e | e <;> subst e
      · cases hb : ltI (at' l (2 * i + 1)) (at' l i) with
        | true => exact absurd ⟨hl, hb⟩ h1
        | false => rfl
      · cases hb : ltI (at' l (2 * i + 2)) (at' l i) with
        | true => exact absurd ⟨hl, hb⟩ h2
        | false => rfl
/-- All is well from 'lo' on, but below one item; and what is below it fits what is above it. -/
def DownInv (lo : Nat) (l : List It) (i : Nat) : Prop := (∀ k, 0 < k → k < l.length → lo ≤ (k - 1) / 2 → (k - 1) / 2 ≠ i → k ≠ i → okAt l k) ∧ (∀ c, 0 < c → c < l.length → (c - 1) / 2 = i → 0 < i → lo ≤ (i - 1) / 2 → ltI (at' l c) (at' l ((i - 1) / 2)) = false)
theorem down_ends (lo : Nat) : ∀ (n : Nat) (l : List It) (i : Nat), l.length - i = n → i < l.length → lo ≤ i → DownInv lo l i → (0 < i → lo ≤ (i - 1) / 2 → okAt l i) →
    ∃ r j, Ends goD nxD (l, i) (r, j) ∧ Perm r l ∧ ∀ k, 0 < k → k < r.length → lo ≤ (k - 1) / 2 → okAt r k := by
  intro n
  induction n using Nat.strongRecOn with
  | _ n ih =>
    intro l i hn hi hlo h hok
    obtain ⟨h1, h2⟩ := h
    rcases leastD_cases l i with ⟨he, hc⟩ | ⟨hm1, hm2, hm3, hm4, hm5⟩
    · refine ⟨l, i, Ends.stop (by simp [goD, he]), Perm.refl _, fun k hk hkl hkp => ?_⟩
      by_cases e : (k - 1) / 2 = i
      · unfold okAt; rw [e]; exact hc k hk hkl e
      · by_cases e2 : k = i
        · subst e2; exact hok hk hkp
        · exact h1 k hk hkl hkp e e2
    · generalize hm : leastD l i = m at *
      have hgo : goD (l, i) = true := by
        unfold goD
        simp only [hm]
        simp
        omega
      have hnx : nxD (l, i) = (swapL l i m, m) := by unfold nxD; simp only [hm]
      obtain ⟨r, j, he, hp, hh⟩ := ih (l.length - m) (by omega) (swapL l i m) m (by rw [swapL_len]) (by rw [swapL_len]; exact hm2) (by omega) (by
        refine ⟨fun k hk hkl hkp hkm hkm' => ?_, fun c hc hcl hcm hm0 hlp => ?_⟩
        · rw [swapL_len] at hkl
          unfold okAt
          rw [at_swap hi hm2, at_swap hi hm2]
          rw [if_neg hkm]
          by_cases e : (k - 1) / 2 = i
          · rw [if_pos e]
            by_cases e2 : k = m
            · rw [if_pos e2]
              exact ltI_asym hm4
            · rw [if_neg e2, if_neg (by omega)]
              exact hm5 k hk hkl e
          · rw [if_neg e]
            have hkm2 : k ≠ m := fun h => e (by rw [h]; exact hm3)
            rw [if_neg hkm2]
            by_cases e3 : k = i
            · rw [if_pos e3]
              subst e3
              exact h2 m (by omega) hm2 hm3 hk hkp
            · rw [if_neg e3]
              exact h1 k hk hkl hkp e e3
        · rw [swapL_len] at hcl
          rw [at_swap hi hm2, at_swap hi hm2, hm3, if_neg (show ¬ c = m by omega), if_neg (show ¬ c = i by omega), if_neg (show ¬ i = m by omega), if_pos rfl]
          have := h1 c hc hcl (by omega) (by omega) (by omega)
          unfold okAt at this
          rw [hcm] at this
          exact this) (fun hm0 hlp => by
            unfold okAt
            rw [at_swap hi hm2, at_swap hi hm2, if_pos rfl, hm3, if_neg (by omega), if_pos rfl]
            exact ltI_asym hm4)
      exact ⟨r, j, Ends.step hgo (by rw [hnx]; exact he), hp.trans (swap_perm hi hm2), hh⟩
/-- An item sinks, then rises. -/
theorem down_up (l : List It) (i : Nat) (hi : i < l.length) (h : DownInv 0 l i) : ∃ r j, Ends goD nxD (l, i) (r, j) ∧ Perm r l ∧ UpInv r i := by
  obtain ⟨h1, h2⟩ := h
  rcases leastD_cases l i with ⟨he, hc⟩ | ⟨hm1, hm2, hm3, hm4, hm5⟩
  · refine ⟨l, i, Ends.stop (by simp [goD, he]), Perm.refl _, fun k hk hkl hki => ?_, fun c hc1 hcl hcp hi0 => h2 c hc1 hcl hcp hi0 (Nat.zero_le _)⟩
    by_cases e : (k - 1) / 2 = i
    · unfold okAt; rw [e]; exact hc k hk hkl e
    · exact h1 k hk hkl (Nat.zero_le _) e hki
  · generalize hm : leastD l i = m at *
    have hgo : goD (l, i) = true := by
      unfold goD
      simp only [hm]
      simp
      omega
    have hnx : nxD (l, i) = (swapL l i m, m) := by unfold nxD; simp only [hm]
    obtain ⟨r, j, he, hp, hh⟩ := down_ends 0 (l.length - m) (swapL l i m) m (by rw [swapL_len]) (by rw [swapL_len]; exact hm2) (Nat.zero_le _) (by
        refine ⟨fun k hk hkl hkp hkm hkm' => ?_, fun c hc hcl hcm hm0 hlp => ?_⟩
        · rw [swapL_len] at hkl
          unfold okAt
          rw [at_swap hi hm2, at_swap hi hm2]
          rw [if_neg hkm]
          by_cases e : (k - 1) / 2 = i
          · rw [if_pos e]
            by_cases e2 : k = m
            · rw [if_pos e2]
              exact ltI_asym hm4
            · rw [if_neg e2, if_neg (by omega)]
              exact hm5 k hk hkl e
          · rw [if_neg e]
            have hkm2 : k ≠ m := fun h => e (by rw [h]; exact hm3)
            rw [if_neg hkm2]
            by_cases e3 : k = i
            · rw [if_pos e3]
              subst e3
              exact h2 m (by omega) hm2 hm3 hk hkp
            · rw [if_neg e3]
              exact h1 k hk hkl hkp e e3
        · rw [swapL_len] at hcl
          rw [at_swap hi hm2, at_swap hi hm2, hm3, if_neg (show ¬ c = m by omega), if_neg (show ¬ c = i by omega), if_neg (show ¬ i = m by omega), if_pos rfl]
          have := h1 c hc hcl (by omega) (by omega) (by omega)
          unfold okAt at this
          rw [hcm] at this
          exact this) (fun hm0 hlp => by
            unfold okAt
            rw [at_swap hi hm2, at_swap hi hm2, if_pos rfl, hm3, if_neg (by omega), if_pos rfl]
            exact ltI_asym hm4)
    have hH : HeapL r := fun k hk hkl => hh k hk hkl (Nat.zero_le _)
    refine ⟨r, j, Ends.step hgo (by rw [hnx]; exact he), hp.trans (swap_perm hi hm2), fun k hk hkl _ => hH k hk hkl, fun c hc hcl hcp hi0 => ?_⟩
    have a1 := hH c hc hcl
    have a2 := hH i hi0 (by omega)
    unfold okAt at a1 a2
    rw [hcp] at a1
    exact leI_trans a2 a1
/-- The first item of a heap is the least. -/
theorem heap_min {l : List It} (h : HeapL l) : ∀ k, k < l.length → ltI (at' l k) (at' l 0) = false := by
  intro k
  induction k using Nat.strongRecOn with
  | _ k ih =>
    intro hk
    by_cases e : k = 0
    · subst e; exact ltI_irr _
    · exact leI_trans (ih ((k - 1) / 2) (by omega) (by omega)) (h k (by omega) hk)
end Go.Proofs.Gv
