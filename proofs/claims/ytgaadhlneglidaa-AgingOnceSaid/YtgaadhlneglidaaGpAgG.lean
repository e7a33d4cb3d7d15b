/-
Aging: Push and Drop, on both sides.
-/
import Derived.Test.YtgaadhlneglidaaGpAg4
namespace Go.Proofs.Gv
open Go.Proofs
set_option linter.unusedVariables false
variable {tk tk2 : Tk} {es es2 : List (List AV)} {l l2 id rank cost : Int}
theorem r27 (hN : es.length ≤ 1000) : vev27_0 l tk es = true := by
  unfold vev27_0
  rw [show (es.length * 32).ble 140737488355328 = true from Nat.ble_eq_true_of_le (by omega)]
  rfl
theorem r10 (hN : es.length ≤ 1000) : vev10_0 l es id rank cost = vev11_0 l es id rank cost ∧ vev10_1 l es id rank cost = vev11_1 l es id rank cost ∧ vev10_2 l es id rank cost = true ∧ vev11_2 l es id rank cost = true := by
  unfold vev10_0 vev10_1 vev10_2 vev11_0 vev11_1 vev11_2
  rw [(r24 hN).1, (r24 hN).2, (r25 hN).1, (r25 hN).2, r27 hN, r29 hN, (r31 hN).1, (r31 hN).2, (r36a hN).1, r30, decide_eq_true (show es.length * 32 ≤ 140737488355328 by omega), decide_eq_true (show es.length ≤ 9223372036854775807 by omega),
    decide_eq_true (show (es.length + (rev10_0 l es id rank cost).length) * 32 ≤ 140737488355328 by show (es.length + 1) * 32 ≤ _; omega), decide_eq_true (show es.length + (rev10_0 l es id rank cost).length ≤ 9223372036854775807 by show es.length + 1 ≤ _; omega),
    decide_eq_true (show (es.length + (rev11_0 l es id rank cost).length) * 32 ≤ 140737488355328 by show (es.length + 1) * 32 ≤ _; omega), decide_eq_true (show es.length + (rev11_0 l es id rank cost).length ≤ 9223372036854775807 by show es.length + 1 ≤ _; omega),
    show rev10_0 l es id rank cost = rev11_0 l es id rank cost from rfl]
  cases (chk l es != 0) <;> cases vev28_0 id rank cost 0 <;> cases decide (ix (fun i => q0 es i == id) es.length ≥ 0) <;> cases decide ((es.length : Int) ≥ 16) <;> exact ⟨rfl, rfl, rfl, rfl⟩
/-- A list without what lies at a place. -/
def wo (es : List (List AV)) (k : Nat) : List (List AV) := es.take k ++ es.drop (k + 1)
theorem r33 {k : Nat} (hk : k < es.length) (hN : es.length ≤ 1000) : vev33_0 l es (k : Int) = wo es k ∧ vev33_1 l es (k : Int) = true := by
  have e0 : rev33_0 l es (k : Int) = ((k + 1 : Nat) : Int) := nxt k _ hk hN
  have e1 : rev33_1 l es (k : Int) = es.drop (k + 1) := by unfold rev33_1; rw [e0, Int.toNat_natCast]
  unfold vev33_0 vev33_1
  rw [e1, e0, Int.toNat_natCast]
  have l1 : (es.take k).length = k := by rw [List.length_take]; omega
  have l2 : (es.drop (k + 1)).length = es.length - (k + 1) := List.length_drop ..
  refine ⟨rfl, ?_⟩
  rw [l1, l2, show bnd 0 (k : Int) (es.length : Int) = true from by simp [bnd]; omega, show bnd ((k + 1 : Nat) : Int) (es.length : Int) (es.length : Int) = true from by simp [bnd]; omega,
    decide_eq_true (show k * 32 ≤ 140737488355328 by omega), decide_eq_true (show k ≤ 9223372036854775807 by omega), decide_eq_true (show (k + (es.length - (k + 1))) * 32 ≤ 140737488355328 by omega), decide_eq_true (show k + (es.length - (k + 1)) ≤ 9223372036854775807 by omega)]
  rfl
theorem del_eq {k : Nat} (hk : k < es.length) (z : List AV) : List.take (k + (es.length - (k + 1))) (List.drop 0 (List.take k es ++ List.drop (k + 1) es ++ List.replicate (k + 1 - k) z)) = wo es k := by
  have l1 : (es.take k).length = k := by rw [List.length_take]; omega
  have l2 : (es.take k ++ es.drop (k + 1)).length = k + (es.length - (k + 1)) := by rw [List.length_append, List.length_drop, l1]
  rw [List.drop_zero, List.take_left' l2]
  rfl
theorem r12 (hN : es.length ≤ 1000) : vev12_0 l es id = vev13_0 l es id ∧ vev12_1 l es id = vev13_1 l es id ∧ vev12_2 l es id = true ∧ vev13_2 l es id = true := by
  unfold vev12_0 vev12_1 vev12_2 vev13_0 vev13_1 vev13_2
  rw [(r24 hN).1, (r24 hN).2, (r25 hN).1, (r25 hN).2, r27 hN, r29 hN, (r31 hN).1, (r31 hN).2, (r36a hN).1]
  by_cases h : ff (fun i => q0 es i == id) es.length < es.length
  · have e : ix (fun i => q0 es i == id) es.length = ((ff (fun i => q0 es i == id) es.length : Nat) : Int) := by unfold ix; rw [if_pos h]
    have e2 : rev12_0 l es id = ((ff (fun i => q0 es i == id) es.length + 1 : Nat) : Int) := by
      unfold rev12_0
      rw [(r36a hN).1, e]
      exact nxt _ _ h hN
    rw [e, e2, (r33 h hN).1, (r33 h hN).2, Int.toNat_natCast, Int.toNat_natCast, del_eq h]
    generalize ff (fun i => q0 es i == id) es.length = k at h ⊢
    rw [decide_eq_false (show ¬ (k : Int) < 0 by omega), decide_eq_true (show (0 : Int) ≤ (k : Int) by omega), decide_eq_true (show (k : Int) < ((k + 1 : Nat) : Int) by omega), decide_eq_true (show ((k + 1 : Nat) : Int) ≤ (es.length : Int) by omega), decide_eq_true (show es.length * 32 ≤ 140737488355328 by omega)]
    cases (chk l es != 0) <;> exact ⟨rfl, rfl, rfl, rfl⟩
  · have e : ix (fun i => q0 es i == id) es.length = -1 := by unfold ix; rw [if_neg h]
    rw [e]
    cases (chk l es != 0) <;> exact ⟨rfl, rfl, rfl, rfl⟩
end Go.Proofs.Gv
