/-
UnackOrder: acknowledgements match what was sent, in order.
-/
import Derived.Test.YtogfdnopjgpdiaaGaUq7
import Derived.Test.YtogfdnopjgpdiaaGpU3
namespace Go.Proofs.Gv
open Go.Proofs
set_option linter.unusedVariables false
variable {es q s : List (List AV)} {i : Nat}
/-- The queue and what was sent, ahead of round i. -/
structure Sn (i : Nat) (q s : List (List AV)) : Prop where
  len : q.length = s.length
  le4 : q.length ≤ 4
  same : ∀ k, k < q.length → pr q k = pr s k
  short : ∀ k, k < q.length → (pr q k).length ≤ 8
  tick : ∀ k, k < q.length → 0 ≤ si q k ∧ si q k < i
  srt : ∀ k, 1 ≤ k → k < q.length → si q (k - 1) ≤ si q k
theorem Sn.mono (h : Sn i q s) : Sn (i + 1) q s := ⟨h.len, h.le4, h.same, h.short, fun k hk => by have := h.tick k hk; omega, h.srt⟩
theorem Sn.sh (h : Sn i q s) : Sh q := fun k hk => Nat.le_trans (h.short k hk) (by omega)
theorem Sn.chk (h : Sn i q s) (hi : i ≤ 100) : chk q = 0 := by
  unfold Gv.chk
  rw [decide_eq_false (show ¬ (q.length : Int) > 4 by have := h.le4; omega), hasF_no.2 (fun k _ hk => by have := h.short k hk; simp; omega), hasF_no.2 (fun k _ hk => by
    have := h.tick k hk
    rw [in_iff.2 (by omega)]
    rfl), hasF_no.2 (fun k h1 hk => by have := h.srt k h1 hk; simp; omega)]
  rfl
theorem pr_drop (q : List (List AV)) (k : Nat) : pr (q.drop 1) k = pr q (k + 1) := by
  unfold pr
  simp only [List.getD_eq_getElem?_getD, List.getElem?_drop]
  rw [Nat.add_comm 1 k]
theorem Sn.drop (h : Sn i q s) : Sn (i + 1) (q.drop 1) (s.drop 1) where
  len := by rw [List.length_drop, List.length_drop, h.len]
  le4 := by rw [List.length_drop]; have := h.le4; omega
  same k hk := by rw [List.length_drop] at hk; rw [pr_drop, pr_drop]; exact h.same _ (by omega)
  short k hk := by rw [List.length_drop] at hk; rw [pr_drop]; exact h.short _ (by omega)
  tick k hk := by rw [List.length_drop] at hk; rw [si_drop]; have := h.tick (k + 1) (by omega); omega
  srt k h1 hk := by
    rw [List.length_drop] at hk
    rw [si_drop, si_drop]
    have := h.srt (k + 1) (by omega) (by omega)
    rwa [show k - 1 + 1 = k + 1 - 1 by omega]
theorem getD_app (q : List (List AV)) (e : List AV) (k : Nat) (hk : k < q.length) : (q ++ [e]).getD k [] = q.getD k [] := by
  simp only [List.getD_eq_getElem?_getD]; rw [List.getElem?_append_left hk]
theorem getD_last (q : List (List AV)) (e : List AV) : (q ++ [e]).getD q.length [] = e := by
  simp only [List.getD_eq_getElem?_getD]; rw [List.getElem?_append_right (Nat.le_refl _), Nat.sub_self]; rfl
theorem Sn.push (h : Sn i q s) {l : List (List AV)} (h4 : q.length < 4) (hl : l.length ≤ 8) : Sn (i + 1) (q ++ [[AV.sl Tk.imm [Kd.int IntKind.u16, Kd.int IntKind.u32] l, AV.int IntKind.i64 (i : Int)]]) (s ++ [[AV.sl Tk.imm [Kd.int IntKind.u16, Kd.int IntKind.u32] l]]) := by
  have hp : ∀ k, k < q.length → pr (q ++ [[AV.sl Tk.imm [Kd.int IntKind.u16, Kd.int IntKind.u32] l, AV.int IntKind.i64 (i : Int)]]) k = pr q k := fun k hk => by unfold pr; rw [getD_app _ _ _ hk]
  have hs : ∀ k, k < q.length → si (q ++ [[AV.sl Tk.imm [Kd.int IntKind.u16, Kd.int IntKind.u32] l, AV.int IntKind.i64 (i : Int)]]) k = si q k := fun k hk => by unfold si; rw [getD_app _ _ _ hk]
  have hp1 : pr (q ++ [[AV.sl Tk.imm [Kd.int IntKind.u16, Kd.int IntKind.u32] l, AV.int IntKind.i64 (i : Int)]]) q.length = l := by unfold pr; rw [getD_last]; rfl
  have hs1 : si (q ++ [[AV.sl Tk.imm [Kd.int IntKind.u16, Kd.int IntKind.u32] l, AV.int IntKind.i64 (i : Int)]]) q.length = i := by unfold si; rw [getD_last]; rfl
  have hll : (q ++ [[AV.sl Tk.imm [Kd.int IntKind.u16, Kd.int IntKind.u32] l, AV.int IntKind.i64 (i : Int)]]).length = q.length + 1 := by simp
  have hc : ∀ k, k < q.length + 1 → k < q.length ∨ k = q.length := fun k hk => by omega
  refine ⟨by simp [h.len], by omega, fun k hk => ?_, fun k hk => ?_, fun k hk => ?_, fun k h1 hk => ?_⟩
  · rw [hll] at hk
    rcases hc k hk with hk | rfl
    · rw [hp k hk, h.same k hk]
      unfold pr
      rw [getD_app _ _ _ (by rw [← h.len]; exact hk)]
    · rw [hp1, h.len]
      unfold pr
      rw [getD_last]
      rfl
  · rw [hll] at hk
    rcases hc k hk with hk | rfl
    · rw [hp k hk]; exact h.short k hk
    · rw [hp1]; exact hl
  · rw [hll] at hk
    rcases hc k hk with hk | rfl
    · rw [hs k hk]; have := h.tick k hk; omega
    · rw [hs1]; omega
  · rw [hll] at hk
    rcases hc k hk with hk | rfl
    · rw [hs k hk, hs (k - 1) (by omega)]; exact h.srt k h1 hk
    · rw [hs1, hs (q.length - 1) (by omega)]; have := h.tick (q.length - 1) (by omega); omega
theorem Sn.pushes (h : Sn i q s) (hi : i ≤ 100) {l : List (List AV)} (hl : l.length ≤ 8) : vev10_0 .imm q .imm l (i : Int) = (bif decide (q.length < 4) then q ++ [[AV.sl Tk.imm [Kd.int IntKind.u16, Kd.int IntKind.u32] l, AV.int IntKind.i64 (i : Int)]] else q) ∧ vev10_1 .imm q .imm l (i : Int) = (bif decide (q.length < 4) then 0 else 7) := by
  unfold vev10_0 vev10_1
  have h4 := h.le4
  have hx : (bif decide ((q.length : Int) > 0) then bif decide ((0 : Int) ≤ rev10_0 .imm q .imm l i) && decide (rev10_0 .imm q .imm l i < (q.length : Int)) then decide ((i : Int) < rev10_1 .imm q .imm l i) else false else false) = false := by
    by_cases h0 : (q.length : Int) > 0
    · have e : rev10_1 .imm q .imm l i = si q (q.length - 1) := by
        unfold rev10_1 rev10_0
        rw [wrap64 _ (by omega) (by omega), show ((q.length : Int) - 1).toNat = q.length - 1 by omega]
        rfl
      have := h.tick (q.length - 1) (by omega)
      rw [e, decide_eq_false (show ¬ (i : Int) < si q (q.length - 1) by omega)]
      simp
    · rw [decide_eq_false h0]; rfl
  rw [hx, (r17 (tk := .imm) (by omega)).1, h.chk hi, decide_eq_false (show ¬ (l.length : Int) > 8 by omega), in_iff.2 (show 0 ≤ (i : Int) ∧ (i : Int) ≤ 1099511627776 by omega)]
  by_cases c : q.length < 4
  · rw [decide_eq_true c, decide_eq_false (show ¬ (q.length : Int) ≥ 4 by omega)]
    exact ⟨rfl, rfl⟩
  · rw [decide_eq_false c, decide_eq_true (show (q.length : Int) ≥ 4 by omega)]
    exact ⟨rfl, rfl⟩
theorem rnd0 : rn5_6_0 es q (i : Int) s = pr es i := by
  unfold rn5_6_0 pr
  rw [Int.toNat_natCast]
/-- A round. -/
theorem round5 (h : Sn i q s) (hi : i < es.length) (hN : es.length ≤ 60) (hl : (pr es i).length ≤ 8) : go5_6 es q (i : Int) s = true ∧ xc5_6_0 es q (i : Int) s = false ∧ Sn (i + 1) (nx5_6_1 es q (i : Int) s) (nx5_6_3 es q (i : Int) s) ∧ nx5_6_2 es q (i : Int) s = ((i + 1 : Nat) : Int) := by
  have h4 := h.le4
  have hlen := h.len
  have e1 : rn5_6_1 es q (i : Int) s = (pr es i).length := by unfold rn5_6_1; rw [rnd0]
  obtain ⟨p0, p1⟩ := h.pushes (by omega) hl
  obtain ⟨p2, _, _⟩ := r10 (tk := .imm) (tk2 := .imm) (es := q) (l := pr es i) (now := (i : Int)) (by omega) (by omega)
  have p2r : vev10_2 .imm q .imm (rn5_6_0 es q (i : Int) s) (i : Int) = true := by rw [rnd0]; exact p2
  have e2 : rn5_6_2 es q (i : Int) s = (bif decide (q.length < 4) then 0 else 7) := by unfold rn5_6_2; rw [rnd0]; exact p1
  have e4 : rn5_6_4 es q (i : Int) s = (bif decide (q.length < 4) then q ++ [[AV.sl Tk.imm [Kd.int IntKind.u16, Kd.int IntKind.u32] (pr es i), AV.int IntKind.i64 (i : Int)]] else q) := by unfold rn5_6_4; rw [rnd0]; exact p0
  have e3 : rn5_6_3 es q (i : Int) s = [[AV.sl Tk.imm [Kd.int IntKind.u16, Kd.int IntKind.u32] (pr es i)]] := by unfold rn5_6_3; rw [rnd0]
  by_cases h0 : 0 < (pr es i).length
  · have d1 : decide (rn5_6_1 es q (i : Int) s > (8 : Int)) = false := by rw [e1]; exact decide_eq_false (by omega)
    have d2 : decide (rn5_6_1 es q (i : Int) s > (0 : Int)) = true := by rw [e1]; exact decide_eq_true (by omega)
    by_cases c : q.length < 4
    · rw [decide_eq_true c] at e2 e4
      have hS := h.push c hl
      rw [show (bif true then q ++ [[AV.sl Tk.imm [Kd.int IntKind.u16, Kd.int IntKind.u32] (pr es i), AV.int IntKind.i64 (i : Int)]] else q) = q ++ [[AV.sl Tk.imm [Kd.int IntKind.u16, Kd.int IntKind.u32] (pr es i), AV.int IntKind.i64 (i : Int)]] from rfl] at e4
      have e2' : rn5_6_2 es q (i : Int) s = 0 := e2
      have e5 : rn5_6_5 es q (i : Int) s = (q.length : Int) + 1 := by unfold rn5_6_5; rw [e4]; simp
      have e7 : rn5_6_7 es q (i : Int) s = (q.length : Int) + 1 := by unfold rn5_6_7 rn5_6_6; rw [e3]; simp; omega
      have hk := hS.chk (by omega)
      obtain ⟨k0, k1⟩ := r17 (tk := .imm) (es := rn5_6_4 es q (i : Int) s) (by rw [e4]; simp; omega)
      rw [e4, hk] at k0
      rw [e4] at k1
      refine ⟨?_, ?_, ?_, step64 i _ hi (by omega)⟩
      · unfold go5_6
        rw [dge, dlt, decide_eq_true hi, d1, d2, p2r, e2', e3, e5, e7, e4, k0, k1, decide_eq_true (show (s.length : Int) < 4 by omega), decide_eq_true (show (s.length + [[AV.sl Tk.imm [Kd.int IntKind.u16, Kd.int IntKind.u32] (pr es i)]].length) * 24 ≤ 140737488355328 by simp; omega), decide_eq_true (show s.length + [[AV.sl Tk.imm [Kd.int IntKind.u16, Kd.int IntKind.u32] (pr es i)]].length ≤ 9223372036854775807 by simp; omega), decide_eq_true (show (q.length : Int) + 1 = (q.length : Int) + 1 from rfl)]
        rfl
      · unfold xc5_6_0
        rw [dge, dlt, decide_eq_true hi, d1, d2, p2r, e2', e3, e5, e7, e4, k0, k1, decide_eq_true (show (s.length : Int) < 4 by omega), decide_eq_true (show (s.length + [[AV.sl Tk.imm [Kd.int IntKind.u16, Kd.int IntKind.u32] (pr es i)]].length) * 24 ≤ 140737488355328 by simp; omega), decide_eq_true (show s.length + [[AV.sl Tk.imm [Kd.int IntKind.u16, Kd.int IntKind.u32] (pr es i)]].length ≤ 9223372036854775807 by simp; omega), decide_eq_true (show (q.length : Int) + 1 = (q.length : Int) + 1 from rfl)]
        rfl
      · unfold nx5_6_1 nx5_6_3 rn5_6_6
        rw [d2, e2', e3, e4]
        exact hS
    · rw [decide_eq_false c] at e2 e4
      have e2' : rn5_6_2 es q (i : Int) s = 7 := e2
      have e4' : rn5_6_4 es q (i : Int) s = q := e4
      have e5 : rn5_6_5 es q (i : Int) s = (s.length : Int) := by unfold rn5_6_5; rw [e4', hlen]
      obtain ⟨k0, k1⟩ := r17 (tk := .imm) (es := q) (by omega)
      rw [h.chk (by omega)] at k0
      refine ⟨?_, ?_, ?_, step64 i _ hi (by omega)⟩
      · unfold go5_6
        rw [dge, dlt, decide_eq_true hi, d1, d2, p2r, e2', e5, e4', k0, k1, decide_eq_false (show ¬ (s.length : Int) < 4 by omega), show ((s.length : Int) != (s.length : Int)) = false by simp]
        rfl
      · unfold xc5_6_0
        rw [dge, dlt, decide_eq_true hi, d1, d2, p2r, e2', e5, e4', k0, k1, decide_eq_false (show ¬ (s.length : Int) < 4 by omega), show ((s.length : Int) != (s.length : Int)) = false by simp]
        rfl
      · unfold nx5_6_1 nx5_6_3
        rw [d2, e2', e4']
        exact h.mono
  · have d1 : decide (rn5_6_1 es q (i : Int) s > (8 : Int)) = false := by rw [e1]; exact decide_eq_false (by omega)
    have d2 : decide (rn5_6_1 es q (i : Int) s > (0 : Int)) = false := by rw [e1]; exact decide_eq_false (by omega)
    obtain ⟨a0, a1, a2, a3⟩ := r12 (tk := .imm) (es := q) (by omega) h.sh
    have hS := h.drop
    obtain ⟨k0, k1⟩ := r17 (tk := .imm) (es := q.drop 1) (by rw [List.length_drop]; omega)
    rw [hS.chk (by omega)] at k0
    by_cases c : 0 < q.length
    · rw [decide_eq_true c] at a1 a2
      have a1' : vev12_1 .imm q = pr q 0 := a1
      have e8 : rn5_6_8 es q (i : Int) s = pr q 0 := by rw [h.same 0 c]; rfl
      obtain ⟨m0, m1⟩ := r16 (tk := .imm) (tk2 := .imm) (es := pr q 0) (es2 := pr q 0) (by have := h.short 0 c; omega)
      rw [sameP_refl] at m0
      have hb : bnd 1 (s.length : Int) (s.length : Int) = true := by simp [bnd]; omega
      have hd : (((q.drop 1).length : Int) != ((s.length - Int.toNat (1 : Int) : Nat) : Int)) = false := by rw [List.length_drop, hlen]; simp
      have h0s : decide ((0 : Int) < (s.length : Int)) = true := decide_eq_true (by omega)
      refine ⟨?_, ?_, ?_, step64 i _ hi (by omega)⟩
      · unfold go5_6
        rw [dge, dlt, decide_eq_true hi, d1, d2, a0, a1', a2, a3, e8, m0, m1, hb, hd, k0, k1, h0s]
        rfl
      · unfold xc5_6_0
        rw [dge, dlt, decide_eq_true hi, d1, d2, a0, a1', a2, a3, e8, m0, m1, hb, hd, k0, k1, h0s]
        rfl
      · unfold nx5_6_1 nx5_6_3
        rw [d2, a0, a2]
        have : List.take (s.length - Int.toNat (1 : Int)) (List.drop (Int.toNat (1 : Int)) s) = s.drop 1 := List.take_of_length_le (by rw [List.length_drop]; exact Nat.le_refl _)
        show Sn (i + 1) (q.drop 1) (List.take (s.length - Int.toNat (1 : Int)) (List.drop (Int.toNat (1 : Int)) s))
        rw [this]
        exact hS
    · rw [decide_eq_false c] at a2
      have hd : (((q.drop 1).length : Int) != (s.length : Int)) = false := by rw [List.length_drop, ← hlen]; simp; omega
      have h0s : decide ((0 : Int) < (s.length : Int)) = false := decide_eq_false (by omega)
      refine ⟨?_, ?_, ?_, step64 i _ hi (by omega)⟩
      · unfold go5_6
        rw [dge, dlt, decide_eq_true hi, d1, d2, a0, a2, a3, hd, k0, k1, h0s]
        rfl
      · unfold xc5_6_0
        rw [dge, dlt, decide_eq_true hi, d1, d2, a0, a2, a3, hd, k0, k1, h0s]
        rfl
      · unfold nx5_6_1 nx5_6_3
        rw [d2, a0, a2]
        have : s.drop 1 = s := by
          have : s = [] := List.eq_nil_of_length_eq_zero (by omega)
          subst this; rfl
        rw [this] at hS
        exact hS
/-- The loop ends well. -/
theorem loop5 (hN : es.length ≤ 60) : ∀ (n i : Nat) (q s : List (List AV)), Sn i q s → i + n = es.length → ∃ r, Ends (g5_6 es) (n5_6 es) (q, (i : Int), s) r ∧ (xc5_6_0 es r.1 r.2.1 r.2.2 = true → xv5_6_0_0 es r.1 r.2.1 r.2.2 = true) ∧ (xc5_6_0 es r.1 r.2.1 r.2.2 || xc5_6_1 es r.1 r.2.1 r.2.2) = true := by
  intro n
  induction n with
  | zero =>
    intro i q s h hi
    have e : decide ((i : Int) < (es.length : Int)) = false := decide_eq_false (by omega)
    refine ⟨_, Ends.stop ?_, ?_, ?_⟩
    · show go5_6 es q (i : Int) s = false
      unfold go5_6
      rw [e]; rfl
    · show xc5_6_0 es q (i : Int) s = true → _
      unfold xc5_6_0
      rw [e]
      intro h; cases h
    · show (xc5_6_0 es q (i : Int) s || xc5_6_1 es q (i : Int) s) = true
      unfold xc5_6_1
      rw [e]; simp
  | succ n ih =>
    intro i q s h hi
    by_cases hl : (pr es i).length ≤ 8
    · obtain ⟨h1, h2, h3, h4⟩ := round5 h (by omega) hN hl
      obtain ⟨r, r1, r2⟩ := ih (i + 1) _ _ h3 (by omega)
      refine ⟨r, Ends.step h1 ?_, r2⟩
      show Ends _ _ (nx5_6_1 es q (i : Int) s, nx5_6_2 es q (i : Int) s, nx5_6_3 es q (i : Int) s) r
      rw [h4]
      exact r1
    · have e1 : rn5_6_1 es q (i : Int) s = (pr es i).length := by unfold rn5_6_1; rw [rnd0]
      have d1 : decide (rn5_6_1 es q (i : Int) s > (8 : Int)) = true := by rw [e1]; exact decide_eq_true (by omega)
      refine ⟨_, Ends.stop ?_, ?_, ?_⟩
      · show go5_6 es q (i : Int) s = false
        unfold go5_6
        rw [dge, dlt, decide_eq_true (show i < es.length by omega), d1]; rfl
      · intro _
        show xv5_6_0_0 es q (i : Int) s = true
        unfold xv5_6_0_0
        rw [d1]; rfl
      · show (xc5_6_0 es q (i : Int) s || xc5_6_1 es q (i : Int) s) = true
        unfold xc5_6_0
        rw [dge, dlt, decide_eq_true (show i < es.length by omega), d1]; rfl
theorem r5 : vev5_1 es = true ∧ vev5_0 es = true := by
  unfold vev5_0 vev5_1 rev5_1 rev5_2 rev5_3 rev5_0
  by_cases h60 : (es.length : Int) > 60
  · rw [decide_eq_true h60]; exact ⟨rfl, rfl⟩
  · rw [decide_eq_false h60]
    have h0 : Sn 0 [] [] := ⟨rfl, by simp, fun k hk => by simp at hk, fun k hk => by simp at hk, fun k hk => by simp at hk, fun k h1 hk => by simp at hk⟩
    obtain ⟨r, r1, r2, r3⟩ := loop5 (es := es) (by omega) es.length 0 [] [] h0 (by omega)
    have f := r1.fin
    simp only [spI]
    rw [show (([] : List (List AV)), (0 : Int), ([] : List (List AV))) = ([], ((0 : Nat) : Int), []) from rfl, f.1, f.2]
    unfold y5_6 z5_6
    cases hx : xc5_6_0 es r.1 r.2.1 r.2.2 with
    | false =>
      rw [hx] at r3
      have r4 : xc5_6_1 es r.1 r.2.1 r.2.2 = true := r3
      rw [r4]
      exact ⟨rfl, rfl⟩
    | true =>
      rw [r2 hx]
      exact ⟨rfl, rfl⟩
theorem law5 : FnOK Try.prog 5 [.sl .imm [.sl [.int .u16, .int .u32]] es] [] (.bool true) [] := by
  have he := ev5 es
  rw [r5.1, r5.2, cond_true] at he
  exact (fn_ok mixed plain (gk_ok k11_ok 30) Try.func5 loops5 he).2
end Go.Proofs.Gv
