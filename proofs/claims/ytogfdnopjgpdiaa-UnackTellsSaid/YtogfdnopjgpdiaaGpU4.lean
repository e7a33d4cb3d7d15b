/-
UnackTells: Check, Late, Least, Greatest and Same are told as the document says.
-/
import Derived.Test.YtogfdnopjgpdiaaGaUq5
import Derived.Test.YtogfdnopjgpdiaaGpUD
namespace Go.Proofs.Gv
open Go.Proofs
set_option linter.unusedVariables false
variable {tk tk2 : Tk} {es es2 : List (List AV)}
theorem Fm.of4 (h : ∀ e ∈ es, okKL [.sl [.int .u16, .int .u32], .int .i64] e) : Fm es := fun e he => by
  have := h e he
  simp only [okKL, okK] at this
  obtain ⟨x, xs, rfl, ⟨ps, rfl, _⟩, y, ys, rfl, ⟨s, rfl, _⟩, rfl⟩ := this
  exact ⟨ps, s, rfl⟩
theorem r4 (hf : Fm es) (hg : Fm es2) {a b c : Int} : vev4_1 es es2 a b c = true ∧ vev4_0 es es2 a b c = true := by
  obtain ⟨l1, l2⟩ := r7 (tk := .imm) (es := es)
  obtain ⟨m1, m2⟩ := r7 (tk := .imm) (es := es2)
  unfold vev4_0 vev4_1
  rw [l1, m1]
  cases hl : vev7_0 .imm es with
  | false => exact ⟨rfl, rfl⟩
  | true =>
    cases hm : vev7_0 .imm es2 with
    | false => exact ⟨rfl, rfl⟩
    | true =>
      obtain ⟨l3, l4⟩ := l2 hl
      obtain ⟨m3, m4⟩ := m2 hm
      have hS : Sh es := fun i hi => Nat.le_trans (l4 i hi) (by omega)
      obtain ⟨e1, e2⟩ := r9 (es := es) (by omega) hf
      obtain ⟨f1, f2⟩ := r9 (es := es2) (by omega) hg
      obtain ⟨c1, c2⟩ := r17 (tk := .imm) (es := es) (by omega)
      obtain ⟨d1, d2⟩ := r18 (tk := .imm) (es := es) (by omega)
      obtain ⟨s1, s2⟩ := r22 (tk := .imm) (es := es) (id := rev4_0 es es2 a b c) (held := b) (by omega) hS
      obtain ⟨g1, g2⟩ := r24 (tk := .imm) (es := es) (id := rev4_0 es es2 a b c) (held := b) (by omega) hS
      obtain ⟨p1, p2⟩ := r37 (tk := .imm) (tk2 := .imm) (es := es) (es2 := es2) (by omega) hS
      obtain ⟨q1, q2⟩ := r14 (tk := .imm) (tk2 := .imm) (es := es) (es2 := es2) (by omega) hS
      rw [e1, e2, f1, f2, c1, c2, d1, d2, r19t, (r20 (tk := .imm) (tk2 := .imm)).1, (r20 (tk := .imm) (tk2 := .imm)).2, s1, s2, g1, g2, show vev25_0 .imm es .imm es2 = true by unfold vev25_0; rw [p2]; rfl, p1, q1, q2]
      simp only [beq_self_eq_true, cond_true, Bool.not_true, cond_false]
      exact ⟨trivial, trivial⟩
theorem law4 {a b c : Int} (h : ∀ e ∈ es, okKL [.sl [.int .u16, .int .u32], .int .i64] e) (h2 : ∀ e ∈ es2, okKL [.sl [.int .u16, .int .u32], .int .i64] e) : FnOK Try.prog 4 [.sl .imm [.sl [.int .u16, .int .u32], .int .i64] es, .sl .imm [.sl [.int .u16, .int .u32], .int .i64] es2, .agg [.int .i64 a, .int .i64 b, .int .i64 c]] [] (.bool true) [] := by
  have key := r4 (Fm.of4 h) (Fm.of4 h2) (a := a) (b := b) (c := c)
  have he := ev4 es es2 a b c
  rw [key.1, key.2, cond_true] at he
  exact (fn_ok mixed plain (gk_ok k11_ok 30) Try.func4 (fun c _ => LoopsOK.none (fun _ _ => rfl) c) he).2
end Go.Proofs.Gv
