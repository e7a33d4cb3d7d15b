/-
UnackPushes: what a push and an acknowledgement leave is told as the document says.
-/
import Derived.Test.YtogfdnopjgpdiaaGaUq4
import Derived.Test.YtogfdnopjgpdiaaGpU6
namespace Go.Proofs.Gv
open Go.Proofs
set_option linter.unusedVariables false
variable {tk tk2 : Tk} {es es2 l : List (List AV)}
theorem r13 (hN : es.length ≤ 1000) : vev13_0 tk es = es.drop 1 ∧ vev13_1 tk es = (bif decide (0 < es.length) then pr es 0 else []) ∧ vev13_2 tk es = decide (0 < es.length) ∧ vev13_3 tk es = true := by
  unfold vev13_0 vev13_1 vev13_2 vev13_3
  rw [show ((es.length : Int) == 0) = !decide (0 < es.length) from Bool.eq_iff_iff.2 (by simp), show decide ((0 : Int) < (es.length : Int)) = decide (0 < es.length) from decide_eq_decide.2 (by omega)]
  by_cases hl : 0 < es.length
  · rw [decide_eq_true hl, show bnd 1 (es.length : Int) (es.length : Int) = true by simp [bnd]; omega]
    refine ⟨rfl, rfl, rfl, ?_⟩
    rw [show rev13_0 tk es = es.drop 1 from rfl, List.length_drop, decide_eq_true (show (es.length - 1) * 32 ≤ 140737488355328 by omega), decide_eq_true (show es.length - 1 ≤ 9223372036854775807 by omega)]
    rfl
  · rw [decide_eq_false hl]
    have : es = [] := List.eq_nil_of_length_eq_zero (by omega)
    subst this
    exact ⟨rfl, rfl, rfl, rfl⟩
theorem r11 {now : Int} (hN : es.length ≤ 1000) : vev11_0 es tk2 l now = vev10_0 tk es tk2 l now ∧ vev11_1 es tk2 l now = vev10_1 tk es tk2 l now := by
  unfold vev10_0 vev11_0 vev10_1 vev11_1
  rw [(r17 hN).1, (r18 hN).1]
  exact ⟨rfl, rfl⟩
theorem r10 {now : Int} (hN : es.length ≤ 1000) (hL : l.length ≤ 1000) : vev10_2 tk es tk2 l now = true ∧ vev11_2 es tk2 l now = true ∧ (vev10_0 tk es tk2 l now = es ∨ vev10_0 tk es tk2 l now = es ++ [[AV.sl Tk.imm [Kd.int IntKind.u16, Kd.int IntKind.u32] l, AV.int IntKind.i64 now]]) := by
  refine ⟨?_, ?_, ?_⟩
  · unfold vev10_2
    rw [r26 hN, (r17 hN).2]
    have hx : (bif decide ((es.length : Int) > 0) then decide ((0 : Int) ≤ rev10_0 tk es tk2 l now) && decide (rev10_0 tk es tk2 l now < (es.length : Int)) else true) = true := by
      by_cases h : (es.length : Int) > 0
      · unfold rev10_0
        rw [wrap64 _ (by omega) (by omega), decide_eq_true h, decide_eq_true (show (0 : Int) ≤ (es.length : Int) - 1 by omega), decide_eq_true (show (es.length : Int) - 1 < (es.length : Int) by omega)]
        rfl
      · rw [decide_eq_false h]; rfl
    have hy : (rev10_2 tk es tk2 l now).length = 1 := rfl
    rw [hx, hy, decide_eq_true (show (es.length + 1) * 32 ≤ 140737488355328 by omega), decide_eq_true (show es.length + 1 ≤ 9223372036854775807 by omega), Nat.ble_eq_true_of_le (show l.length * 8 ≤ 140737488355328 by omega)]
    generalize (vev17_0 tk es != (0 : Int)) = a
    generalize decide ((l.length : Int) > 8) = b
    generalize (!vev27_0 now) = c
    generalize (bif decide ((es.length : Int) > (0 : Int)) then bif decide ((0 : Int) ≤ rev10_0 tk es tk2 l now) && decide (rev10_0 tk es tk2 l now < (es.length : Int)) then decide (now < rev10_1 tk es tk2 l now) else false else false) = d
    generalize decide ((es.length : Int) ≥ 4) = e
    cases a <;> cases b <;> cases c <;> cases d <;> cases e <;> rfl
  · unfold vev11_2
    rw [(r18 hN).2]
    have hx : (bif decide ((es.length : Int) > 0) then decide ((0 : Int) ≤ rev11_0 es tk2 l now) && decide (rev11_0 es tk2 l now < (es.length : Int)) else true) = true := by
      by_cases h : (es.length : Int) > 0
      · unfold rev11_0
        rw [wrap64 _ (by omega) (by omega), decide_eq_true h, decide_eq_true (show (0 : Int) ≤ (es.length : Int) - 1 by omega), decide_eq_true (show (es.length : Int) - 1 < (es.length : Int) by omega)]
        rfl
      · rw [decide_eq_false h]; rfl
    have hy : (rev11_2 es tk2 l now).length = 1 := rfl
    rw [hx, hy, decide_eq_true (show (es.length + 1) * 32 ≤ 140737488355328 by omega), decide_eq_true (show es.length + 1 ≤ 9223372036854775807 by omega), decide_eq_true (show l.length * 8 ≤ 140737488355328 by omega), decide_eq_true (show l.length ≤ 9223372036854775807 by omega), decide_eq_true (show es.length * 32 ≤ 140737488355328 by omega), decide_eq_true (show es.length ≤ 9223372036854775807 by omega)]
    generalize (vev18_0 .imm es != (0 : Int)) = a
    generalize decide ((l.length : Int) > 8) = b
    generalize (!vev29_0 now) = c
    generalize (bif decide ((es.length : Int) > (0 : Int)) then bif decide ((0 : Int) ≤ rev11_0 es tk2 l now) && decide (rev11_0 es tk2 l now < (es.length : Int)) then decide (now < rev11_1 es tk2 l now) else false else false) = d
    generalize decide ((es.length : Int) ≥ 4) = e
    cases a <;> cases b <;> cases c <;> cases d <;> cases e <;> rfl
  · unfold vev10_0
    generalize (vev17_0 tk es != (0 : Int)) = a
    generalize decide ((l.length : Int) > 8) = b
    generalize (!vev27_0 now) = c
    generalize (bif decide ((es.length : Int) > (0 : Int)) then bif decide ((0 : Int) ≤ rev10_0 tk es tk2 l now) && decide (rev10_0 tk es tk2 l now < (es.length : Int)) then decide (now < rev10_1 tk es tk2 l now) else false else false) = d
    generalize decide ((es.length : Int) ≥ 4) = e
    cases a <;> cases b <;> cases c <;> cases d <;> cases e <;> first | exact .inl rfl | exact .inr rfl
theorem Fm.drop (h : Fm es) : Fm (es.drop 1) := fun e he => h e (List.mem_of_mem_drop he)
theorem Fm.push (h : Fm es) {now : Int} : Fm (es ++ [[AV.sl Tk.imm [Kd.int IntKind.u16, Kd.int IntKind.u32] l, AV.int IntKind.i64 now]]) := fun e he => by
  rcases List.mem_append.1 he with h1 | h1
  · exact h e h1
  · obtain rfl := List.mem_singleton.1 h1
    exact ⟨l, now, rfl⟩
theorem Sh.drop (h : Sh es) : Sh (es.drop 1) := fun i hi => by
  rw [List.length_drop] at hi
  have e : pr (es.drop 1) i = pr es (i + 1) := by
    unfold pr
    simp only [List.getD_eq_getElem?_getD, List.getElem?_drop]
    rw [Nat.add_comm 1 i]
  rw [e]
  exact h _ (by omega)
theorem Sh.push (h : Sh es) {now : Int} (hl : l.length ≤ 1000) : Sh (es ++ [[AV.sl Tk.imm [Kd.int IntKind.u16, Kd.int IntKind.u32] l, AV.int IntKind.i64 now]]) := fun i hi => by
  rw [List.length_append] at hi
  simp only [List.length_cons, List.length_nil] at hi
  rcases Nat.lt_or_ge i es.length with h1 | h1
  · have e : pr (es ++ [[AV.sl Tk.imm [Kd.int IntKind.u16, Kd.int IntKind.u32] l, AV.int IntKind.i64 now]]) i = pr es i := by
      unfold pr
      have e : (es ++ [[AV.sl Tk.imm [Kd.int IntKind.u16, Kd.int IntKind.u32] l, AV.int IntKind.i64 now]]).getD i [] = es.getD i [] := by simp only [List.getD_eq_getElem?_getD]; rw [List.getElem?_append_left h1]
      rw [e]
    rw [e]; exact h i h1
  · obtain rfl : i = es.length := by omega
    have e : pr (es ++ [[AV.sl Tk.imm [Kd.int IntKind.u16, Kd.int IntKind.u32] l, AV.int IntKind.i64 now]]) es.length = l := by
      unfold pr
      have e : (es ++ [[AV.sl Tk.imm [Kd.int IntKind.u16, Kd.int IntKind.u32] l, AV.int IntKind.i64 now]]).getD es.length [] = [AV.sl Tk.imm [Kd.int IntKind.u16, Kd.int IntKind.u32] l, AV.int IntKind.i64 now] := by
        simp only [List.getD_eq_getElem?_getD]
        rw [List.getElem?_append_right (Nat.le_refl _), Nat.sub_self]
        rfl
      rw [e]
      rfl
    rw [e]; exact hl
theorem r3 (hf : Fm es) (hN : es.length * 32 ≤ 140737488355328) {now : Int} : vev3_1 es l now = true ∧ vev3_0 es l now = true := by
  obtain ⟨l1, l2⟩ := r7 (tk := .imm) (es := es)
  unfold vev3_0 vev3_1 rev3_0
  rw [l1]
  cases hl : vev7_0 .imm es with
  | false => exact ⟨rfl, rfl⟩
  | true =>
    by_cases h20 : (l.length : Int) > 20
    · rw [decide_eq_true h20]; exact ⟨rfl, rfl⟩
    · rw [decide_eq_false h20]
      obtain ⟨l3, l4⟩ := l2 hl
      have l5 : es.length ≤ 1000 := by omega
      have hS : Sh es := fun i hi => Nat.le_trans (l4 i hi) (by omega)
      obtain ⟨e1, e2⟩ := r9 hN hf
      obtain ⟨a0, a1, a2, a3⟩ := r12 (tk := .imm) l5 hS
      obtain ⟨b0, b1, b2, b3⟩ := r13 (tk := .imm) l5
      obtain ⟨p2, q2, hp⟩ := r10 (tk := .imm) (tk2 := .imm) (es := es) (l := l) (now := now) l5 (by omega)
      obtain ⟨q0, q1⟩ := r11 (tk := .imm) (tk2 := .imm) (es := es) (l := l) (now := now) l5
      have hz : Fm (vev10_0 .imm es .imm l now) ∧ Sh (vev10_0 .imm es .imm l now) ∧ (vev10_0 .imm es .imm l now).length ≤ 1000 := by
        rcases hp with hp | hp
        · rw [hp]; exact ⟨hf, hS, l5⟩
        · rw [hp]
          refine ⟨hf.push, hS.push (by omega), ?_⟩
          rw [List.length_append]; simp only [List.length_cons, List.length_nil]; omega
      have hd : (es.drop 1).length ≤ 1000 := by rw [List.length_drop]; omega
      have hh : (bif decide (0 < es.length) then pr es 0 else []).length ≤ 1000 := by
        by_cases h : 0 < es.length
        · rw [decide_eq_true h]; exact hS 0 h
        · rw [decide_eq_false h]; simp
      rw [e1, e2, q0, q1, p2, q2, a0, a1, a2, a3, b0, b1, b2, b3]
      rw [(r15 (tk := .imm) hz.2.2 hz.1).1, (r15 (tk := .imm) hz.2.2 hz.1).2, (r15 (tk := .imm) hd hf.drop).1, (r15 (tk := .imm) hd hf.drop).2, (r15 (tk := .imm) l5 hf).1, (r15 (tk := .imm) l5 hf).2]
      rw [(r14 hz.2.2 hz.2.1).1, (r14 hz.2.2 hz.2.1).2, (r14 hd hS.drop).1, (r14 hd hS.drop).2, (r14 l5 hS).1, (r14 l5 hS).2, (r16 hh).1, (r16 hh).2, sameQ_refl, sameQ_refl, sameQ_refl, sameP_refl]
      simp only [beq_self_eq_true, cond_true, cond_false, Bool.not_true]
      exact ⟨trivial, trivial⟩
theorem law3 {now : Int} (h : ∀ e ∈ es, okKL [.sl [.int .u16, .int .u32], .int .i64] e) (hN : es.length * 32 ≤ 140737488355328) : FnOK Try.prog 3 [.sl .imm [.sl [.int .u16, .int .u32], .int .i64] es, .sl .imm [.int .u16, .int .u32] l, .int .i64 now] [] (.bool true) [] := by
  have key := r3 (Fm.of h) hN (l := l) (now := now)
  have he := ev3 es l now
  rw [key.1, key.2, cond_true] at he
  exact (fn_ok mixed plain (gk_ok k11_ok 30) Try.func3 (fun c _ => LoopsOK.none (fun _ _ => rfl) c) he).2
end Go.Proofs.Gv
