/-
What is taken out of a heap, dropped from it, or changed in it, leaves a heap of what is left.
-/
import Derived.Test.YtjbohlgfhfehdaaGpHB
namespace Go.Proofs.Gv
open List (Perm)
theorem erase_perm {l : List It} {i : Nat} (hi : i < l.length) : Perm (at' l i :: l.eraseIdx i) l := by
  rw [List.eraseIdx_eq_take_drop_succ, at_lt hi]
  refine List.perm_middle.symm.trans ?_
  rw [← List.drop_eq_getElem_cons hi, List.take_append_drop]
theorem set_perm {l : List It} {i : Nat} (x : It) (hi : i < l.length) : Perm (x :: l.eraseIdx i) (l.set i x) := by
  rw [List.eraseIdx_eq_take_drop_succ, List.set_eq_take_append_cons_drop, if_pos hi]
  exact List.perm_middle.symm
/-- An item sinks and rises in a list that is a heap but for it. -/
noncomputable def fixR (l : List It) (i : Nat) : List It := upR (downR l i) i
theorem fixR_spec {l : List It} {i : Nat} (hi : i < l.length) (h : DownInv 0 l i) : Perm (fixR l i) l ∧ HeapL (fixR l i) := by
  obtain ⟨r, j, he, r', j', he', hp, hh⟩ := fix_spec hi h
  unfold fixR
  rw [downR_of he, upR_of he']
  exact ⟨hp, hh⟩
noncomputable def setH (h : List It) (i : Nat) (x : It) : List It := fixR (h.set i x) i
theorem setH_spec {h : List It} {i : Nat} (x : It) (hh : HeapL h) (hi : i < h.length) : Perm (setH h i x) (x :: h.eraseIdx i) ∧ HeapL (setH h i x) := by
  obtain ⟨h1, h2⟩ := fixR_spec (l := h.set i x) (by rw [List.length_set]; exact hi) (set_inv x hh hi)
  exact ⟨h1.trans (set_perm x hi).symm, h2⟩
/-- The list in which the last item stands in the place of one. -/
def moveL (h : List It) (i : Nat) : List It := (h.set i (at' h (h.length - 1))).take (h.length - 1)
noncomputable def cutH (h : List It) (i : Nat) : List It := bif decide (i < h.length - 1) then fixR (moveL h i) i else moveL h i
theorem moveL_len (h : List It) (i : Nat) : (moveL h i).length = h.length - 1 := by unfold moveL; simp
theorem cutH_spec {h : List It} {i : Nat} (hh : HeapL h) (hi : i < h.length) : Perm (cutH h i) (h.eraseIdx i) ∧ HeapL (cutH h i) := by
  have hp : Perm (moveL h i) (h.eraseIdx i) := List.Perm.cons_inv ((cut_perm hi).trans (erase_perm hi).symm)
  unfold cutH
  by_cases e : i < h.length - 1
  · rw [decide_eq_true e, cond_true]
    obtain ⟨h1, h2⟩ := fixR_spec (l := moveL h i) (by rw [moveL_len]; exact e) (cut_inv hh (by omega))
    exact ⟨h1.trans hp, h2⟩
  · rw [decide_eq_false e, cond_false]
    refine ⟨hp, fun k hk hkl => ?_⟩
    rw [moveL_len] at hkl
    have e1 : ∀ k, k < h.length - 1 → at' (moveL h i) k = at' h k := fun k hk => by
      rw [at_lt (by rw [moveL_len]; exact hk)]
      unfold moveL
      rw [List.getElem_take, ← at_lt (by rw [List.length_set]; omega), at_set hi, if_neg (by omega)]
    unfold okAt
    rw [e1 k hkl, e1 _ (by omega)]
    exact hh k hk (by omega)
/-- The first place of a number. -/
def placeI (id : Int) : List It → Option Nat
  | [] => none
  | x :: l => if x.2 = id then some 0 else (placeI id l).map (· + 1)
theorem placeI_some {id : Int} : ∀ {l : List It} {i : Nat}, placeI id l = some i → i < l.length ∧ (at' l i).2 = id ∧ ∀ j, j < i → (at' l j).2 ≠ id := by
  intro l
  induction l with
  | nil => intro i h; cases h
  | cons x l ih =>
    intro i h
    unfold placeI at h
    split at h
    · rename_i hx
      injection h with h
      subst h
      exact ⟨by simp, hx, fun j hj => by omega⟩
    · rename_i hx
      cases hp : placeI id l with
      | none => rw [hp] at h; cases h
      | some k =>
        rw [hp] at h
        injection h with h
        subst h
        obtain ⟨h1, h2, h3⟩ := ih hp
        refine ⟨by simp; omega, h2, fun j hj => ?_⟩
        cases j with
        | zero => exact hx
        | succ j =>
          have hj' : j + 1 < k + 1 := hj
          exact h3 j (by omega)
theorem placeI_none {id : Int} : ∀ {l : List It}, placeI id l = none → ∀ j, j < l.length → (at' l j).2 ≠ id := by
  intro l
  induction l with
  | nil => intro _ j hj; simp at hj
  | cons x l ih =>
    intro h j hj
    unfold placeI at h
    split at h
    · cases h
    · rename_i hx
      cases hp : placeI id l with
      | some k => rw [hp] at h; cases h
      | none =>
        cases j with
        | zero => exact hx
        | succ j => exact ih hp j (by simpa using hj)
/-- The least item of a heap is the first one in order; what is left is in order behind it. -/
theorem heap_pop {h : List It} (hh : HeapL h) (hn : 0 < h.length) : sortL h = at' h 0 :: sortL (cutH h 0) := by
  obtain ⟨h1, _⟩ := cutH_spec hh hn
  refine sortL_min ((h1.cons _).trans (erase_perm hn)) fun y hy => ?_
  have hy' : y ∈ h := (h1.trans (List.Perm.refl _)).mem_iff.1 hy |> fun hm => List.mem_of_mem_eraseIdx hm
  obtain ⟨k, hk, rfl⟩ := List.getElem_of_mem hy'
  rw [← at_lt hk]
  exact heap_min hh k hk
theorem own_of_heap {l : List It} (h : HeapL l) : ownH l = l := by unfold ownH; rw [isH_iff.2 h]; rfl
end Go.Proofs.Gv
