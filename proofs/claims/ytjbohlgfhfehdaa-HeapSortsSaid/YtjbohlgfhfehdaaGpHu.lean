/-
HeapSorts: Sorted, Check, Less and Of are told as the document says.
-/
import Derived.Test.YtjbohlgfhfehdaaGaHp7
import Derived.Test.YtjbohlgfhfehdaaGpHr
import Derived.Test.YtjbohlgfhfehdaaGwA
namespace Go.Proofs.Gv
open Go.Proofs
set_option linter.unusedVariables false
theorem sortR_R (l : List It) : sortR (R l) = R (sortL l) := by
  unfold sortR
  have : (R l).map pairI = l := by
    unfold R
    rw [List.map_map]
    conv => rhs; rw [← List.map_id l]
    exact List.map_congr_left fun x _ => rfl
  rw [this]
  rfl
theorem r3S {l : List It} (a b c d : Int) : vev3_1 (R l) a b c d = true ∧ vev3_0 (R l) a b c d = true := by
  unfold vev3_1 vev3_0 rev3_0
  rw [R_len]
  by_cases h : (l.length : Int) > 60
  · rw [decide_eq_true h]; exact ⟨rfl, rfl⟩
  · rw [decide_eq_false h]
    have sl : ∀ m : List It, (sortL m).length = m.length := fun m => (sortL_perm m).length_eq
    have hl : l.length ≤ 60 := by omega
    obtain ⟨o0, o1⟩ := own8 (l := l) (by omega)
    obtain ⟨f0, f1⟩ := of7 .imm (l := l) (by omega)
    obtain ⟨hp, hh⟩ := ofH_spec l
    have hol : (ofH l).length = l.length := hp.length_eq
    obtain ⟨b0, b1⟩ := back10 .imm (l := sortL l) (by rw [sl]; omega)
    obtain ⟨s0, s1⟩ := sort12 .imm (l := l) (by omega)
    obtain ⟨q0, q1⟩ := same9 .imm .imm (l := sortL l) (by rw [sl]; omega)
    obtain ⟨c0, c1⟩ := chk13 .imm (l := l) (by omega)
    obtain ⟨d0, d1⟩ := chk14 .imm (l := l) (by omega)
    obtain ⟨e0, e1⟩ := chk13 .lent (l := ofH l) (by omega)
    obtain ⟨g0, g1⟩ := back10 .lent (l := ofH l) (by omega)
    obtain ⟨t0, t1⟩ := sort12 .imm (l := ofH l) (by omega)
    rw [sortL_congr hp] at t0
    rw [isH_iff.2 hh] at e0
    have k11 : vev11_0 .imm (R l) = true := by
      unfold vev11_0
      rw [R_len, Nat.ble_eq_true_of_le (show l.length * 16 ≤ 140737488355328 by omega), Nat.ble_eq_true_of_le (show l.length ≤ 1000000 by omega)]
      rfl
    rw [o0, o1, f0, f1, sortR_R, k11, b0, b1, s0, s1, q0, q1, c0, c1, d0, d1, e0, e1, g0, g1, t0, t1, q0, q1, v15, v16]
    simp
theorem rowsR {es : List (List AV)} (h : ∀ e ∈ es, okKL [.int .i64, .int .i64] e) : ∃ l, es = R l := by
  induction es with
  | nil => exact ⟨[], rfl⟩
  | cons e es ih =>
    obtain ⟨l, hl⟩ := ih fun x hx => h x (List.mem_cons_of_mem _ hx)
    have hk := h e List.mem_cons_self
    simp only [okKL, okK] at hk
    obtain ⟨x, xs, e1, ⟨a, rfl, wa⟩, y, ys, rfl, ⟨b, rfl, wb⟩, rfl⟩ := hk
    exact ⟨(a, b) :: l, by rw [e1, hl]; rfl⟩
theorem law3 {es : List (List AV)} {a b c d : Int} (h : ∀ e ∈ es, okKL [.int .i64, .int .i64] e) : FnOK Try.prog 3 [.sl .imm [.int .i64, .int .i64] es, .agg [.int .i64 a, .int .i64 b], .agg [.int .i64 c, .int .i64 d]] [] (.bool true) [] := by
  obtain ⟨l, rfl⟩ := rowsR h
  have key := r3S (l := l) a b c d
  have he := ev3 (R l) a b c d
  rw [key.1, key.2, cond_true] at he
  exact (fn_ok mixed plain (gk_ok k11_ok 30) Try.func3 (fun c _ => LoopsOK.none (fun _ _ => rfl) c) he).2
end Go.Proofs.Gv
