/-
HeapOut: items come out by their order, each once.
-/
import Derived.Test.YtjbohlgfhfehdaaGaHp5
import Derived.Test.YtjbohlgfhfehdaaGpHs
namespace Go.Proofs.Gv
open Go.Proofs
open List (Perm)
set_option linter.unusedVariables false
set_option linter.unusedSimpArgs false
/-- The heap of the first items. -/
noncomputable def hN (l : List It) : Nat → List It
  | 0 => []
  | i + 1 => pushH (hN l i) (at' l i)
theorem hN_spec (l : List It) : ∀ i, i ≤ l.length → HeapL (hN l i) ∧ Perm (hN l i) (l.take i) := by
  intro i
  induction i with
  | zero => intro _; exact ⟨fun k hk hkl => by simp [hN] at hkl, by simp [hN]⟩
  | succ i ih =>
    intro hi
    obtain ⟨h1, h2⟩ := ih (by omega)
    obtain ⟨p1, p2⟩ := pushH_spec (hN l i) (at' l i)
    refine ⟨p2, p1.trans ?_⟩
    rw [take_at (by omega)]
    exact h2.append_right _
theorem hN_len (l : List It) {i : Nat} (hi : i ≤ l.length) : (hN l i).length = i := by
  rw [(hN_spec l i hi).2.length_eq, List.length_take]
  omega
/-- What is left of a heap, so many items having come out. -/
noncomputable def gN (h : List It) : Nat → List It
  | 0 => h
  | i + 1 => cutH (ownH (gN h i)) 0
theorem gN_spec {h : List It} (hh : HeapL h) : ∀ i, i ≤ h.length → HeapL (gN h i) ∧ sortL (gN h i) = (sortL h).drop i ∧ (gN h i).length = h.length - i := by
  intro i
  induction i with
  | zero => intro _; exact ⟨hh, by simp [gN], by simp [gN]⟩
  | succ i ih =>
    intro hi
    obtain ⟨h1, h2, h3⟩ := ih (by omega)
    have ho := own_of_heap h1
    have h0 : 0 < (gN h i).length := by omega
    obtain ⟨k1, k2⟩ := cutH_spec h1 h0
    have hp := heap_pop h1 h0
    have e : gN h (i + 1) = cutH (gN h i) 0 := by show cutH (ownH (gN h i)) 0 = _; rw [ho]
    rw [e]
    refine ⟨k2, ?_, ?_⟩
    · rw [hp] at h2
      rw [show i + 1 = 1 + i from by omega, Nat.add_comm 1 i, ← List.drop_drop, ← h2]
      rfl
    · rw [k1.length_eq, List.length_eraseIdx, if_pos h0]
      omega
theorem gN_head {h : List It} (hh : HeapL h) {i : Nat} (hi : i < h.length) : at' (sortL h) i = at' (gN h i) 0 := by
  obtain ⟨h1, h2, h3⟩ := gN_spec hh i (by omega)
  have hp := heap_pop h1 (by omega)
  rw [h2] at hp
  have hl : i < (sortL h).length := by rw [(sortL_perm h).length_eq]; exact hi
  rw [List.drop_eq_getElem_cons hl] at hp
  injection hp with hp _
  rw [at_lt hl, hp]
theorem r5 {l : List It} (hl : l.length ≤ 60) : vev5_1 (R l) = true ∧ vev5_0 (R l) = true := by
  have h00 : ((0 : Int) != 0) = false := rfl
  have e1 : Ends (g5_5 (R l)) (n5_5 (R l)) ([], (0 : Int)) (R (hN l l.length), (l.length : Int)) := by
    refine Ends.count (go := g5_5 (R l)) (next := n5_5 (R l)) l.length (fun i => (R (hN l i), (i : Int))) (fun i hi => ?_) ?_
    · have hn := hN_len l (show i ≤ l.length by omega)
      have hn1 := hN_len l (show i + 1 ≤ l.length by omega)
      obtain ⟨hs, _⟩ := hN_spec l (i + 1) (by omega)
      obtain ⟨p0, p1⟩ := push17 .imm (l := hN l i) (by omega) (at' l i)
      have a0 : rn5_5_0 (R l) (R (hN l i)) (i : Int) = (at' l i).1 := by unfold rn5_5_0; rw [Int.toNat_natCast, R_key hi]
      have a1 : rn5_5_1 (R l) (R (hN l i)) (i : Int) = (at' l i).2 := by unfold rn5_5_1; rw [Int.toNat_natCast, R_id hi]
      have a2 : rn5_5_2 (R l) (R (hN l i)) (i : Int) = R (hN l (i + 1)) := by unfold rn5_5_2; rw [a0, a1, p0]; rfl
      have a3 : rn5_5_3 (R l) (R (hN l i)) (i : Int) = ((i + 1 : Nat) : Int) := by unfold rn5_5_3; rw [wrapOf _ (by omega) (by omega)]; rfl
      obtain ⟨z0, z1⟩ := z13 .imm hs (by omega)
      refine ⟨?_, ?_⟩
      · unfold g5_5 go5_5
        dsimp only
        rw [a0, a1, a2, a3, p1, z0, z1, R_len, R_len, hn1, decide_eq_true (show (i : Int) < (l.length : Int) by omega), decide_eq_true (show (0 : Int) ≤ (i : Int) by omega), h00, bne_self_eq_false]
        rfl
      · unfold n5_5
        dsimp only
        rw [a2, a3]
    · unfold g5_5 go5_5
      dsimp only
      rw [R_len, decide_eq_false (by omega)]
      rfl
  have f1 := e1.fin
  obtain ⟨hh, hp⟩ := hN_spec l l.length (Nat.le_refl _)
  have hnl := hN_len l (Nat.le_refl l.length)
  rw [List.take_length] at hp
  generalize hN l l.length = h at *
  have hw : sortL l = sortL h := (sortL_congr hp).symm
  obtain ⟨s0, s1⟩ := sort12 .imm (l := l) (by omega)
  rw [hw] at s0
  have hwl : (sortL h).length = l.length := by rw [(sortL_perm h).length_eq, hnl]
  have e2 : Ends (g5_12 (R (sortL h))) (n5_12 (R (sortL h))) (R h, (0 : Int)) (R (gN h l.length), (l.length : Int)) := by
    refine Ends.count (go := g5_12 (R (sortL h))) (next := n5_12 (R (sortL h))) l.length (fun i => (R (gN h i), (i : Int))) (fun i hi => ?_) ?_
    · obtain ⟨q1, q2, q3⟩ := gN_spec hh i (by omega)
      obtain ⟨q4, _, q5⟩ := gN_spec hh (i + 1) (by omega)
      have hd := gN_head hh (show i < h.length by omega)
      obtain ⟨o3, o4, o0, o12⟩ := pop18 .imm (l := gN h i) (by omega)
      have h0 : 0 < (gN h i).length := by omega
      rw [decide_eq_true h0] at o3
      rw [decide_eq_true h0, cond_true] at o0
      have o0' : vev18_0 .imm (R (gN h i)) = R (gN h (i + 1)) := o0
      obtain ⟨u1, u2⟩ := o12 h0
      rw [own_of_heap q1] at u1 u2
      obtain ⟨z0, z1⟩ := z13 .imm q4 (by omega)
      have hiw : i < (sortL h).length := by omega
      refine ⟨?_, ?_⟩
      · unfold g5_12 go5_12
        dsimp only
        rw [o3, o4, o0', u1, u2, z0, z1, Int.toNat_natCast, R_key hiw, R_id hiw, hd, R_len, R_len, R_len, q3, q5, hwl, hnl, decide_eq_true (show (i : Int) < (l.length : Int) by omega), decide_eq_true (show (0 : Int) ≤ (i : Int) by omega), h00, wrapOf _ (by omega) (by omega), show ((l.length - i : Nat) : Int) - 1 = ((l.length - (i + 1) : Nat) : Int) by omega, bne_self_eq_false, beq_self_eq_true, beq_self_eq_true]
        rfl
      · unfold n5_12 nx5_12_2
        dsimp only
        rw [o0', wrapOf _ (by omega) (by omega)]
        rfl
    · unfold g5_12 go5_12
      dsimp only
      rw [R_len, hwl, decide_eq_false (by omega)]
      rfl
  have f2 := e2.fin
  obtain ⟨_, _, q3⟩ := gN_spec hh l.length (by omega)
  have r0 : rev5_0 (R l) = (R h, (l.length : Int)) := f1.2
  have r1 : rev5_1 (R l) = R h := by unfold rev5_1; rw [r0]
  have r2 : rev5_2 (R l) = (R (gN h l.length), (l.length : Int)) := by unfold rev5_2; rw [r1, s0]; exact f2.2
  have r3 : rev5_3 (R l) = R (gN h l.length) := by unfold rev5_3; rw [r2]
  have sp1 : (spI g5_5 n5_5 y5_5 z5_5 d5_5 (R l, [], (0 : Int))).fst = true := by
    simp only [spI]
    rw [f1.2, f1.1]
    unfold y5_5 z5_5 xc5_5_0 xc5_5_1
    dsimp only
    rw [R_len, decide_eq_false (show ¬ (l.length : Int) < (l.length : Int) by omega)]
    rfl
  have sp2 : (spI g5_12 n5_12 y5_12 z5_12 d5_12 (R (sortL h), R h, (0 : Int))).fst = true := by
    simp only [spI]
    rw [f2.2, f2.1]
    unfold y5_12 z5_12 xc5_12_0 xc5_12_1
    dsimp only
    rw [R_len, hwl, decide_eq_false (show ¬ (l.length : Int) < (l.length : Int) by omega)]
    rfl
  have x1 : xc5_5_0 (R l) (R h) (l.length : Int) = false := by
    unfold xc5_5_0
    rw [R_len, decide_eq_false (show ¬ (l.length : Int) < (l.length : Int) by omega)]
    rfl
  have x2 : xc5_12_0 (R (gN h l.length)) (R (sortL h)) (l.length : Int) = false := by
    unfold xc5_12_0
    rw [R_len (sortL h), hwl, decide_eq_false (show ¬ (l.length : Int) < (l.length : Int) by omega)]
    rfl
  have hz : (((R (gN h l.length)).length : Int) == 0) = true := by rw [R_len, q3, hnl, Nat.sub_self]; rfl
  unfold vev5_0 vev5_1
  rw [r3, r2, r1, r0, s0, s1, sp1, sp2]
  dsimp only
  rw [x1, x2, hz, R_len, decide_eq_false (show ¬ (l.length : Int) > 60 by omega)]
  exact ⟨rfl, rfl⟩
theorem law5 {es : List (List AV)} (h : ∀ e ∈ es, okKL [.int .i64, .int .i64] e) : FnOK Try.prog 5 [.sl .imm [.int .i64, .int .i64] es] [] (.bool true) [] := by
  obtain ⟨l, rfl⟩ := rows_R h
  have key : vev5_1 (R l) = true ∧ vev5_0 (R l) = true := by
    rcases Nat.lt_or_ge 60 l.length with hl | hl
    · unfold vev5_1 vev5_0
      rw [R_len, decide_eq_true (by omega)]
      exact ⟨rfl, rfl⟩
    · exact r5 hl
  have he := ev5 (R l)
  rw [key.1, key.2, cond_true] at he
  exact (fn_ok mixed plain (gk_ok k9_ok 30) Try.func5 loops5 he).2
end Go.Proofs.Gv
