/-
Items in order; and what is put into a heap, taken out of it, changed in it.
-/
import Derived.Test.YtjbohlgfhfehdaaGpHA
namespace Go.Proofs.Gv
open List (Perm)
abbrev SortedI (l : List It) : Prop := l.Pairwise fun a b => ltI b a = false
/-- The place for an item among the first ones. -/
def insK (x : It) (o : List It) : Nat → Nat
  | 0 => 0
  | k + 1 => bif ltI x (at' o k) then insK x o k else k + 1
theorem insK_le (x : It) (o : List It) : ∀ k, insK x o k ≤ k := by
  intro k
  induction k with
  | zero => exact Nat.le_refl _
  | succ k ih =>
    unfold insK
    cases ltI x (at' o k)
    · exact Nat.le_refl _
    · exact Nat.le_trans ih (Nat.le_succ k)
theorem insK_hi (x : It) (o : List It) : ∀ k j, insK x o k ≤ j → j < k → ltI x (at' o j) = true := by
  intro k
  induction k with
  | zero => intro j _ h; omega
  | succ k ih =>
    intro j h1 h2
    unfold insK at h1
    cases hb : ltI x (at' o k) with
    | false => rw [hb] at h1; simp only [cond_false] at h1; omega
    | true =>
      rw [hb] at h1
      simp only [cond_true] at h1
      by_cases e : j = k
      · subst e; exact hb
      · exact ih j h1 (by omega)
theorem insK_lo (x : It) (o : List It) : ∀ k, 0 < insK x o k → ltI x (at' o (insK x o k - 1)) = false := by
  intro k
  induction k with
  | zero => intro h; simp [insK] at h
  | succ k ih =>
    intro h
    unfold insK at h ⊢
    cases hb : ltI x (at' o k) with
    | false => simp only [cond_false]; exact hb
    | true => rw [hb] at h; simp only [cond_true] at h ⊢; exact ih h
def insL (x : It) (o : List It) : List It := o.take (insK x o o.length) ++ x :: o.drop (insK x o o.length)
def sortL (l : List It) : List It := l.foldl (fun o x => insL x o) []
theorem insL_perm (x : It) (o : List It) : Perm (insL x o) (x :: o) := by
  unfold insL
  refine List.perm_middle.trans ?_
  rw [List.take_append_drop]
theorem sorted_get {l : List It} (h : SortedI l) {i j : Nat} (hij : i < j) (hj : j < l.length) : ltI (at' l j) (at' l i) = false := by
  rw [at_lt hj, at_lt (by omega)]
  exact List.pairwise_iff_getElem.1 h i j (by omega) hj hij
theorem insL_sorted {x : It} {o : List It} (h : SortedI o) : SortedI (insL x o) := by
  have hk := insK_le x o o.length
  unfold insL SortedI
  rw [List.pairwise_append, List.pairwise_cons]
  refine ⟨h.sublist (List.take_sublist _ _), ⟨fun b hb => ?_, h.sublist (List.drop_sublist _ _)⟩, fun a ha b hb => ?_⟩
  · obtain ⟨i, hi, rfl⟩ := List.getElem_of_mem hb
    rw [List.length_drop] at hi
    rw [List.getElem_drop, ← at_lt (by omega)]
    exact ltI_asym (insK_hi x o o.length _ (by omega) (by omega))
  · obtain ⟨i, hi, rfl⟩ := List.getElem_of_mem ha
    rw [List.length_take] at hi
    have hxa : ltI x (o.take (insK x o o.length))[i] = false := by
      rw [List.getElem_take, ← at_lt (by omega)]
      have h1 := insK_lo x o o.length (by omega)
      by_cases e : i = insK x o o.length - 1
      · rw [e]; exact h1
      · exact leI_trans (sorted_get h (show i < insK x o o.length - 1 by omega) (by omega)) h1
    rcases List.mem_cons.1 hb with e | hb
    · rw [e]; exact hxa
    · obtain ⟨j, hj, rfl⟩ := List.getElem_of_mem hb
      rw [List.length_drop] at hj
      rw [List.getElem_drop, List.getElem_take, ← at_lt (by omega), ← at_lt (by omega)]
      exact sorted_get h (by omega) (by omega)
theorem sortL_spec : ∀ (l o : List It), SortedI o → SortedI (l.foldl (fun o x => insL x o) o) ∧ Perm (l.foldl (fun o x => insL x o) o) (o ++ l) := by
  intro l
  induction l with
  | nil => intro o h; exact ⟨h, by simp⟩
  | cons x l ih =>
    intro o h
    obtain ⟨h1, h2⟩ := ih (insL x o) (insL_sorted h)
    refine ⟨h1, h2.trans ?_⟩
    exact ((insL_perm x o).append_right l).trans (List.perm_middle.symm)
theorem sortL_sorted (l : List It) : SortedI (sortL l) := (sortL_spec l [] List.Pairwise.nil).1
theorem sortL_perm (l : List It) : Perm (sortL l) l := (sortL_spec l [] List.Pairwise.nil).2
theorem sorted_eq {l m : List It} (h1 : SortedI l) (h2 : SortedI m) (h : Perm l m) : l = m :=
  List.Perm.eq_of_pairwise (fun a b _ _ h1 h2 => leI_antisymm h1 h2) h1 h2 h
theorem sortL_congr {l m : List It} (h : Perm l m) : sortL l = sortL m := sorted_eq (sortL_sorted l) (sortL_sorted m) (((sortL_perm l).trans h).trans (sortL_perm m).symm)
theorem sortL_min {x : It} {r l : List It} (h : Perm (x :: r) l) (hm : ∀ y ∈ r, ltI y x = false) : sortL l = x :: sortL r := by
  refine sorted_eq (sortL_sorted l) (List.pairwise_cons.2 ⟨fun y hy => hm y ((sortL_perm r).mem_iff.1 hy), sortL_sorted r⟩) ((sortL_perm l).trans (h.symm.trans ((sortL_perm r).symm.cons x)))
/-- What becomes of a heap in which an item sinks. -/
noncomputable def downR (l : List It) (i : Nat) : List It := (finL goD nxD (l, i)).1
noncomputable def upR (l : List It) (i : Nat) : List It := (finL goU nxU (l, i)).1
theorem downR_of {l r : List It} {i j : Nat} (h : Ends goD nxD (l, i) (r, j)) : downR l i = r := by unfold downR; rw [h.fin.2]
theorem upR_of {l r : List It} {i j : Nat} (h : Ends goU nxU (l, i) (r, j)) : upR l i = r := by unfold upR; rw [h.fin.2]
/-- A heap is made from the last items on. -/
noncomputable def heapify : Nat → List It → List It
  | 0, l => l
  | n + 1, l => heapify n (downR l n)
theorem heapify_spec : ∀ (n : Nat) (l : List It), n ≤ l.length / 2 → (∀ k, 0 < k → k < l.length → n ≤ (k - 1) / 2 → okAt l k) → Perm (heapify n l) l ∧ HeapL (heapify n l) := by
  intro n
  induction n with
  | zero => intro l _ h; exact ⟨Perm.refl _, fun k hk hkl => h k hk hkl (Nat.zero_le _)⟩
  | succ n ih =>
    intro l hn h
    obtain ⟨r, j, he, hp, hh⟩ := down_ends n (l.length - n) l n rfl (by omega) (Nat.le_refl _) ⟨fun k hk hkl h1 h2 _ => h k hk hkl (by omega), fun c _ _ _ h0 h1 => by omega⟩ (fun h0 h1 => by omega)
    simp only [heapify, downR_of he]
    obtain ⟨h1, h2⟩ := ih r (by rw [hp.length_eq]; omega) hh
    exact ⟨h1.trans hp, h2⟩
noncomputable def ofH (l : List It) : List It := heapify (l.length / 2) l
theorem ofH_spec (l : List It) : Perm (ofH l) l ∧ HeapL (ofH l) := heapify_spec _ l (Nat.le_refl _) fun k hk hkl h => by omega
/-- Is a list a heap? -/
noncomputable def isH (l : List It) : Bool := @decide (HeapL l) (Classical.propDecidable _)
theorem isH_iff {l : List It} : isH l = true ↔ HeapL l := by unfold isH; exact @decide_eq_true_iff _ (Classical.propDecidable _)
theorem isH_not {l : List It} : isH l = false ↔ ¬ HeapL l := by rw [← isH_iff]; simp
noncomputable def ownH (l : List It) : List It := bif isH l then l else ofH l
theorem ownH_spec (l : List It) : Perm (ownH l) l ∧ HeapL (ownH l) := by
  unfold ownH
  cases h : isH l with
  | true => exact ⟨Perm.refl _, isH_iff.1 h⟩
  | false => exact ofH_spec l
/-- An item behind a heap rises. -/
theorem push_up {l : List It} (x : It) (h : HeapL l) : UpInv (l ++ [x]) l.length := by
  have e1 : ∀ k, k < l.length → at' (l ++ [x]) k = at' l k := fun k hk => by simp [at', List.getD, List.getElem?_append_left hk]
  refine ⟨fun k hk hkl hkn => ?_, fun c hc hcl hcp h0 => ?_⟩
  · rw [List.length_append, List.length_singleton] at hkl
    unfold okAt
    rw [e1 k (by omega), e1 _ (by omega)]
    exact h k hk (by omega)
  · rw [List.length_append, List.length_singleton] at hcl
    omega
noncomputable def pushH (l : List It) (x : It) : List It := upR (ownH l ++ [x]) (ownH l).length
theorem pushH_ends (l : List It) (x : It) : ∃ r j, Ends goU nxU (ownH l ++ [x], (ownH l).length) (r, j) ∧ Perm r (l ++ [x]) ∧ HeapL r := by
  obtain ⟨h1, h2⟩ := ownH_spec l
  obtain ⟨r, j, he, hp, hh⟩ := up_ends (ownH l).length (ownH l ++ [x]) (by simp) (push_up x h2)
  exact ⟨r, j, he, hp.trans (h1.append_right _), hh⟩
theorem pushH_spec (l : List It) (x : It) : Perm (pushH l x) (l ++ [x]) ∧ HeapL (pushH l x) := by
  obtain ⟨r, j, he, hp, hh⟩ := pushH_ends l x
  unfold pushH
  rw [upR_of he]
  exact ⟨hp, hh⟩
/-- Another item in a heap's place: it may sink, or rise. -/
theorem set_inv {l : List It} {i : Nat} (x : It) (h : HeapL l) (hi : i < l.length) : DownInv 0 (l.set i x) i := by
  refine ⟨fun k hk hkl _ hkp e => ?_, fun c hc hcl hcp h0 _ => ?_⟩
  · rw [List.length_set] at hkl
    unfold okAt
    rw [at_set hi, at_set hi, if_neg e, if_neg hkp]
    exact h k hk hkl
  · rw [List.length_set] at hcl
    rw [at_set hi, at_set hi, if_neg (by omega), if_neg (by omega)]
    have a1 := h c hc hcl
    have a2 := h i h0 hi
    unfold okAt at a1 a2
    rw [hcp] at a1
    exact leI_trans a2 a1
/-- An item sinks, then rises, in a list that is a heap but for it. -/
theorem fix_spec {l : List It} {i : Nat} (hi : i < l.length) (h : DownInv 0 l i) : ∃ r j, Ends goD nxD (l, i) (r, j) ∧ (∃ r' j', Ends goU nxU (r, i) (r', j') ∧ Perm r' l ∧ HeapL r') := by
  obtain ⟨r, j, he, hp, hu⟩ := down_up l i hi h
  obtain ⟨r', j', he', hp', hh⟩ := up_ends i r (by rw [hp.length_eq]; exact hi) hu
  exact ⟨r, j, he, r', j', he', hp'.trans hp, hh⟩
/-- The last item stands in the place of one that is taken out. -/
theorem cut_inv {l : List It} {i : Nat} (h : HeapL l) (hi : i + 1 < l.length) : DownInv 0 ((l.set i (at' l (l.length - 1))).take (l.length - 1)) i := by
  have hlen : ((l.set i (at' l (l.length - 1))).take (l.length - 1)).length = l.length - 1 := by simp
  have e1 : ∀ k, k < l.length - 1 → at' ((l.set i (at' l (l.length - 1))).take (l.length - 1)) k = at' (l.set i (at' l (l.length - 1))) k := fun k hk => by rw [at_lt (by rw [hlen]; exact hk), List.getElem_take]; exact (at_lt (by rw [List.length_set]; omega)).symm
  have hs := set_inv (at' l (l.length - 1)) h (show i < l.length by omega)
  obtain ⟨h1, h2⟩ := hs
  rw [List.length_set] at h1 h2
  refine ⟨fun k hk hkl h0 hkp hki => ?_, fun c hc hcl hcp h0 h3 => ?_⟩
  · rw [hlen] at hkl
    unfold okAt
    rw [e1 k hkl, e1 _ (by omega)]
    exact h1 k hk (by omega) h0 hkp hki
  · rw [hlen] at hcl
    rw [e1 c hcl, e1 _ (by omega)]
    exact h2 c hc (by omega) hcp h0 h3
theorem cut_perm {l : List It} {i : Nat} (hi : i < l.length) : Perm (at' l i :: (l.set i (at' l (l.length - 1))).take (l.length - 1)) l := by
  have hne : l ≠ [] := by intro h; subst h; simp at hi
  by_cases e : i = l.length - 1
  · have e2 : (l.set i (at' l (l.length - 1))).take (l.length - 1) = l.take (l.length - 1) := by
      rw [← e, List.take_set]
      exact List.set_eq_of_length_le (by simp; omega)
    rw [e2]
    have e3 : l.take (l.length - 1) ++ [at' l i] = l := by
      rw [e, at_lt (by omega)]
      rw [← List.take_succ_eq_append_getElem (by omega)]
      rw [show l.length - 1 + 1 = l.length by omega, List.take_length]
    exact (List.perm_append_singleton (at' l i) (l.take (l.length - 1))).symm.trans (by rw [e3])
  · have hs : swapL l i (l.length - 1) = (l.set i (at' l (l.length - 1))).take (l.length - 1) ++ [at' l i] := by
      refine List.ext_getElem (by rw [swapL_len]; simp; omega) fun k hk hk' => ?_
      rw [swapL_len] at hk
      rw [← at_lt (by rw [swapL_len]; exact hk), at_swap (by omega) (by omega)]
      by_cases e2 : k = l.length - 1
      · rw [if_pos e2, List.getElem_append_right (by simp; omega)]
        simp
      · rw [if_neg e2, List.getElem_append_left (by simp; omega), List.getElem_take, ← at_lt (by rw [List.length_set]; exact hk), at_set (by omega)]
    refine ((List.perm_append_singleton (at' l i) _).symm.trans ?_)
    rw [← hs]
    exact swap_perm hi (by omega)
end Go.Proofs.Gv
