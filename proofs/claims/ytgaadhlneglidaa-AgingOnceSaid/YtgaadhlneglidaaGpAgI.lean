/-
Aging: Serve, on both sides: what it answers.
-/
import Derived.Test.YtgaadhlneglidaaGpAgH
namespace Go.Proofs.Gv
open Go.Proofs
set_option linter.unusedVariables false
variable {tk tk2 : Tk} {es es2 : List (List AV)} {l l2 id rank cost q : Int}
theorem nx_pos (h : ¬ nx l es < 0) : ∃ k, k < es.length ∧ nx l es = (k : Int) := by
  unfold nx at h ⊢
  cases hc : (chk l es != 0) with
  | true => rw [hc] at h; exact absurd (show (-1 : Int) < 0 by omega) h
  | false =>
    rw [hc] at h
    cases h2 : decide (ff (fun i => decide (q3 es i ≥ l)) es.length < es.length) with
    | true => exact ⟨_, of_decide_eq_true h2, rfl⟩
    | false =>
      rw [h2] at h
      cases h3 : decide (0 < es.length) with
      | true =>
        have := of_decide_eq_true h3
        have ha := amN_le es (es.length - 1)
        exact ⟨amN es (es.length - 1), by omega, rfl⟩
      | false => rw [h3] at h; exact absurd (show (-1 : Int) < 0 by omega) h
theorem r33l {k : Nat} (hk : k < es.length) (hN : es.length ≤ 1000) : vev33l_0 l es (k : Int) = wo es k ∧ vev33l_1 l es (k : Int) = true := by
  have h := r33 (l := l) hk hN
  exact ⟨h.1, h.2⟩
theorem r14 (hN : es.length ≤ 1000) : (vev14_0 l es q = vev15_0 l es q ∧ vev14_1 l es q = vev15_1 l es q ∧ vev14_2 l es q = vev15_2 l es q ∧ vev14_3 l es q = vev15_3 l es q ∧ vev14_4 l es q = vev15_4 l es q ∧ vev14_5 l es q = vev15_5 l es q) ∧ vev14_6 l es q = true ∧ vev15_6 l es q = true := by
  have h20 := r20 (tk := .imm) (l := l) hN
  have h21 := r21 (tk := .imm) (l := l) hN
  by_cases hx : nx l es < 0
  · unfold vev14_0 vev14_1 vev14_2 vev14_3 vev14_4 vev14_5 vev14_6 vev15_0 vev15_1 vev15_2 vev15_3 vev15_4 vev15_5 vev15_6
    rw [h20.1, h20.2, h21.1, h21.2, r27 hN, decide_eq_true hx]
    exact ⟨⟨rfl, rfl, rfl, rfl, rfl, rfl⟩, rfl, rfl⟩
  · by_cases hq : q < 1
    · unfold vev14_0 vev14_1 vev14_2 vev14_3 vev14_4 vev14_5 vev14_6 vev15_0 vev15_1 vev15_2 vev15_3 vev15_4 vev15_5 vev15_6
      rw [h20.1, h20.2, h21.1, h21.2, r27 hN, decide_eq_false hx, decide_eq_true hq]
      exact ⟨⟨rfl, rfl, rfl, rfl, rfl, rfl⟩, rfl, rfl⟩
    · obtain ⟨k, hk, hn⟩ := nx_pos hx
      have h4 := (ends14 (q := q) (l := l) (Nat.le_of_lt hk) hN).fin
      have h5 := (ends15 (q := q) (l := l) (Nat.le_of_lt hk) hN).fin
      rw [hn] at h20 h21
      have a1 : rev14_1 l es q = ag es k := by unfold rev14_1 rev14_0; rw [h20.1, h4.2]
      have b1 : rev15_1 l es q = ag es k := by unfold rev15_1 rev15_0; rw [h21.1, h5.2]
      have a3 : rev14_3 l es q = rev15_3 l es q := by unfold rev14_3 rev15_3; rw [a1, b1, h20.1, h21.1]
      have a4 : rev14_4 l es q = rev15_4 l es q := by unfold rev14_4 rev15_4; rw [a3]; exact mq_a _ _
      have a5 : rev14_5 l es q = rev15_5 l es q := by unfold rev14_5 rev15_5; rw [a4, a3, a1, b1, h20.1, h21.1]
      have a7 : rev14_7 l es q = rev15_7 l es q := by unfold rev14_7 rev15_7; rw [a5, h20.1, h21.1]
      have a8 : rev14_8 l es q = ((k + 1 : Nat) : Int) := by unfold rev14_8; rw [h20.1]; exact nxt k _ hk hN
      have l5 : (rev15_5 l es q).length = es.length := by unfold rev15_5; rw [List.length_set, b1, ag_len]
      have a6 : rev14_6 l es q = (es.length : Int) := by unfold rev14_6; rw [a5, l5]
      have b6 : rev15_6 l es q = (es.length : Int) := by unfold rev15_6; rw [l5]
      have a2 : rev14_2 l es q = (es.length : Int) := by unfold rev14_2; rw [a1, ag_len]
      have b2 : rev15_2 l es q = (es.length : Int) := by unfold rev15_2; rw [b1, ag_len]
      have d5 := r33l (l := l) (es := rev15_5 l es q) (k := k) (by omega) (by omega)
      have de := del_eq (es := rev15_5 l es q) (k := k) (by omega) [AV.int IntKind.i64 0, AV.int IntKind.i64 0, AV.int IntKind.i64 0, AV.int IntKind.i64 0]
      unfold vev14_0 vev14_1 vev14_2 vev14_3 vev14_4 vev14_5 vev14_6 vev15_0 vev15_1 vev15_2 vev15_3 vev15_4 vev15_5 vev15_6
      simp only [spI]
      rw [h20.1, h20.2, h21.1, h21.2, h4.1, h4.2, h5.1, h5.2, r27 hN, a2, b2, a4, a5, a6, b6, a7, a8, Int.toNat_natCast, Int.toNat_natCast, de, d5.1, d5.2, l5]
      rw [decide_eq_false (show ¬ (k : Int) < 0 by omega), decide_eq_false hq, decide_eq_true (show (0 : Int) ≤ (k : Int) by omega), decide_eq_true (show (k : Int) < (es.length : Int) by omega), decide_eq_true (show (k : Int) < ((k + 1 : Nat) : Int) by omega), decide_eq_true (show ((k + 1 : Nat) : Int) ≤ (es.length : Int) by omega), decide_eq_true (show es.length * 32 ≤ 140737488355328 by omega), decide_eq_true (show es.length ≤ 9223372036854775807 by omega)]
      unfold z14_5 z15_7 xc14_5_0 xc15_7_0 y14_5 y15_7
      dsimp only
      rw [decide_eq_false (show ¬ (k : Int) < (k : Int) by omega)]
      cases decide (rev15_7 l es q = 0) <;> exact ⟨⟨rfl, rfl, rfl, rfl, rfl, rfl⟩, rfl, rfl⟩
end Go.Proofs.Gv
