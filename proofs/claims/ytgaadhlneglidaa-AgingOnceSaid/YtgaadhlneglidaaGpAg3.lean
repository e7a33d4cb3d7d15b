/-
The plain law of AgingChanges.
-/
import Derived.Test.YtgaadhlneglidaaGpAgI
import Derived.Test.YtgaadhlneglidaaGaAg5
namespace Go.Proofs.Gv
open Go.Proofs
set_option linter.unusedVariables false
variable {es es2 : List (List AV)} {l id rank cost q : Int}
abbrev i64 (x : Int) : Prop := -9223372036854775808 ≤ x ∧ x ≤ 9223372036854775807
theorem okR4 {a b c d : Int} (ha : i64 a) (hb : i64 b) (hc : i64 c) (hd : i64 d) : okKL [.int .i64, .int .i64, .int .i64, .int .i64] [.int .i64 a, .int .i64 b, .int .i64 c, .int .i64 d] := by
  have k : ∀ x : Int, i64 x → (decide (-9223372036854775808 ≤ x) && decide (x ≤ 9223372036854775807)) = true := fun x h => by simpa using h
  simp only [okKL, okK]
  exact ⟨_, _, rfl, ⟨a, rfl, k _ ha⟩, _, _, rfl, ⟨b, rfl, k _ hb⟩, _, _, rfl, ⟨c, rfl, k _ hc⟩, _, _, rfl, ⟨d, rfl, k _ hd⟩, rfl⟩
theorem wrap_in (x : Int) : i64 (IntKind.i64.wrap x) := by
  rw [IntKind.wrap_i64]
  constructor <;> omega
theorem mn_in {x : Int} (h : i64 x) : i64 (mn x) := by
  obtain ⟨h1, h2⟩ := h
  unfold mn
  split <;> constructor <;> omega
theorem okQ_set (h : okQ es) {i : Nat} {r : List AV} (hr : i < es.length → okKL [.int .i64, .int .i64, .int .i64, .int .i64] r) : okQ (es.set i r) := fun x hx => by
  by_cases hi : i < es.length
  · rcases List.mem_or_eq_of_mem_set hx with h1 | h1
    · exact h _ h1
    · subst h1; exact hr hi
  · rw [List.set_eq_of_length_le (by omega)] at hx
    exact h _ hx
theorem okQ_st3 (h : okQ es) (i : Nat) : okQ (st3 es i) := okQ_set h fun hi => by
  obtain ⟨h0, h1, h2, h3⟩ := row_in h hi
  exact okR4 h0 h1 h2 (mn_in (wrap_in _))
theorem okQ_ag (h : okQ es) : ∀ k, okQ (ag es k)
  | 0 => h
  | k + 1 => okQ_st3 (okQ_ag h k) k
theorem okQ_wo (h : okQ es) (k : Nat) : okQ (wo es k) := fun x hx => by
  rcases List.mem_append.1 hx with h1 | h1
  · exact h _ (List.mem_of_mem_take h1)
  · exact h _ (List.mem_of_mem_drop h1)
theorem wo_len {k : Nat} : (wo es k).length ≤ es.length + 1 := by
  unfold wo
  rw [List.length_append, List.length_take, List.length_drop]
  omega
theorem ok11 (h : okQ es) (hN : es.length ≤ 24) (hi : i64 id) (hr : i64 rank) (hc : i64 cost) : okQ (vev11_0 l es id rank cost) ∧ (vev11_0 l es id rank cost).length ≤ 25 := by
  unfold vev11_0
  have h2 : okQ (es ++ rev11_0 l es id rank cost) := fun x hx => by
    rcases List.mem_append.1 hx with h1 | h1
    · exact h _ h1
    · have : x = [AV.int IntKind.i64 id, AV.int IntKind.i64 rank, AV.int IntKind.i64 cost, AV.int IntKind.i64 0] := by simpa [rev11_0] using h1
      subst this
      exact okR4 hi hr hc (by constructor <;> omega)
  have h3 : (es ++ rev11_0 l es id rank cost).length ≤ 25 := by rw [List.length_append]; show es.length + 1 ≤ 25; omega
  cases (vev25_0 l Tk.imm es != 0) <;> cases vev30_0 id rank cost 0 <;> cases decide (vev31_0 l Tk.imm es id ≥ 0) <;> cases decide ((es.length : Int) ≥ 16) <;> first | exact ⟨h, by show es.length ≤ 25; omega⟩ | exact ⟨h2, h3⟩
theorem ok13 (h : okQ es) (hN : es.length ≤ 24) : okQ (vev13_0 l es id) ∧ (vev13_0 l es id).length ≤ 25 := by
  unfold vev13_0
  rw [(r25 (by omega)).1, (r25 (by omega)).2, (r31 (by omega)).1]
  by_cases hf : ff (fun i => q0 es i == id) es.length < es.length
  · have e : ix (fun i => q0 es i == id) es.length = ((ff (fun i => q0 es i == id) es.length : Nat) : Int) := by unfold ix; rw [if_pos hf]
    rw [e, (r33 hf (by omega)).1, decide_eq_false (show ¬ ((ff (fun i => q0 es i == id) es.length : Nat) : Int) < 0 by omega)]
    have hw := wo_len (es := es) (k := ff (fun i => q0 es i == id) es.length)
    cases (chk l es != 0) with
    | true => exact ⟨h, by show es.length ≤ 25; omega⟩
    | false => exact ⟨okQ_wo h _, by show (wo es _).length ≤ 25; omega⟩
  · have e : ix (fun i => q0 es i == id) es.length = -1 := by unfold ix; rw [if_neg hf]
    rw [e]
    cases (chk l es != 0) <;> exact ⟨h, by show es.length ≤ 25; omega⟩
theorem ok15 (h : okQ es) (hN : es.length ≤ 24) : okQ (vev15_0 l es q) ∧ (vev15_0 l es q).length ≤ 25 := by
  have h21 := r21 (tk := .imm) (l := l) (es := es) (by omega)
  unfold vev15_0
  by_cases hx : nx l es < 0
  · rw [h21.1, decide_eq_true hx]
    exact ⟨h, by show es.length ≤ 25; omega⟩
  · obtain ⟨k, hk, hn⟩ := nx_pos hx
    have h5 := (ends15 (q := q) (l := l) (Nat.le_of_lt hk) (by omega)).fin
    rw [hn] at h21
    have b1 : rev15_1 l es q = ag es k := by unfold rev15_1 rev15_0; rw [h21.1, h5.2]
    have l5 : (rev15_5 l es q).length = es.length := by unfold rev15_5; rw [List.length_set, b1, ag_len]
    have o5 : okQ (rev15_5 l es q) := by
      have ha := okQ_ag h k
      unfold rev15_5
      rw [b1, h21.1, Int.toNat_natCast]
      refine okQ_set ha fun hi => ?_
      obtain ⟨h0, h1, h2, h3⟩ := row_in ha hi
      exact okR4 h0 h1 (wrap_in _) h3
    have d5 := r33l (l := l) (es := rev15_5 l es q) (k := k) (by omega) (by omega)
    have hw := wo_len (es := rev15_5 l es q) (k := k)
    rw [h21.1, d5.1]
    cases (bif decide ((k : Int) < 0) then true else decide (q < 1)) with
    | true => exact ⟨h, by show es.length ≤ 25; omega⟩
    | false =>
      cases decide (rev15_7 l es q = 0) with
      | true => exact ⟨okQ_wo o5 _, by show (wo _ _).length ≤ 25; omega⟩
      | false => exact ⟨o5, by show (rev15_5 l es q).length ≤ 25; omega⟩
theorem plain3 {a b c d : Int} (h : okQ es) (ha : i64 a) (hb : i64 b) (hc : i64 c) : vev3_0 l es a b c d q = true ∧ vev3_1 l es a b c d q = true := by
  unfold vev3_0 vev3_1 rev3_3 rev3_2 rev3_1 rev3_0 vev7_0
  by_cases a1 : (es.length : Int) ≤ 24
  · have hN : es.length ≤ 1000 := by omega
    have h11 := ok11 (l := l) h (by omega) ha hb hc
    have h13 := ok13 (l := l) (id := a) h (by omega)
    have h15 := ok15 (l := l) (q := q) h (by omega)
    have p10 := r10 (l := l) (id := a) (rank := b) (cost := c) hN
    have p12 := r12 (l := l) (id := a) hN
    have p14 := r14 (l := l) (q := q) hN
    rw [decide_eq_true a1, (r9 h hN).1, (r9 h hN).2, p10.1, p10.2.1, p10.2.2.1, p10.2.2.2, p12.1, p12.2.1, p12.2.2.1, p12.2.2.2, p14.1.1, p14.1.2.1, p14.1.2.2.1, p14.1.2.2.2.1, p14.1.2.2.2.2.1, p14.1.2.2.2.2.2, p14.2.1, p14.2.2]
    rw [(r17 (l := l) h hN).1, (r17 (l := l) h hN).2, (r17 (l := l) h11.1 (by omega)).1, (r17 (l := l) h11.1 (by omega)).2, (r17 (l := l) h13.1 (by omega)).1, (r17 (l := l) h13.1 (by omega)).2, (r17 (l := l) h15.1 (by omega)).1, (r17 (l := l) h15.1 (by omega)).2]
    rw [(r16 (es := es) hN).1, (r16 (es := es) hN).2, (r16 (es := vev11_0 l es a b c) (by omega)).1, (r16 (es := vev11_0 l es a b c) (by omega)).2, (r16 (es := vev13_0 l es a) (by omega)).1, (r16 (es := vev13_0 l es a) (by omega)).2, (r16 (es := vev15_0 l es q) (by omega)).1, (r16 (es := vev15_0 l es q) (by omega)).2, eqQ_refl, eqQ_refl, eqQ_refl, eqQ_refl]
    simp
  · rw [decide_eq_false a1]
    exact ⟨rfl, rfl⟩
theorem law3 {a b c d : Int} (h : okQ es) (ha : (Lit.int .i64 a).wf = true) (hb : (Lit.int .i64 b).wf = true) (hc : (Lit.int .i64 c).wf = true) : FnOK Try.prog 3 [.agg [.int .i64 l, .sl .imm [.int .i64, .int .i64, .int .i64, .int .i64] es], .agg [.int .i64 a, .int .i64 b, .int .i64 c, .int .i64 d], .int .i64 q] [] (.bool true) [] := by
  have k : ∀ x : Int, (Lit.int .i64 x).wf = true → i64 x := fun x hx => by
    have h2 : (decide (-9223372036854775808 ≤ x) && decide (x ≤ 9223372036854775807)) = true := hx
    simpa using h2
  obtain ⟨h0, h3⟩ := plain3 (l := l) (q := q) (d := d) h (k _ ha) (k _ hb) (k _ hc)
  have he := ev3 l es a b c d q
  rw [h3, h0, cond_true] at he
  exact (fn_ok mixed plain (gk_ok k17_ok 30) Try.func3 (fun c _ => LoopsOK.none (fun _ _ => rfl) c) he).2
end Go.Proofs.Gv
