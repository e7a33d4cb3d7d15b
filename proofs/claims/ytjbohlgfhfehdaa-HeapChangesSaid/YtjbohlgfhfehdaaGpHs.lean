/-
HeapChanges: whatever is put in, taken out, changed or dropped leaves a heap of what the document says.
-/
import Derived.Test.YtjbohlgfhfehdaaGaHp4
import Derived.Test.YtjbohlgfhfehdaaGpHr
import Derived.Test.YtjbohlgfhfehdaaGwA
namespace Go.Proofs.Gv
open Go.Proofs
open List (Perm)
set_option linter.unusedVariables false
set_option linter.unusedSimpArgs false
theorem z13 (tk : Tk) {m : List It} (h : HeapL m) (hl : m.length ≤ 1000) : vev13_0 tk (R m) = 0 ∧ vev13_1 tk (R m) = true := by
  obtain ⟨c0, c1⟩ := chk13 tk (l := m) (by omega)
  rw [isH_iff.2 h] at c0
  exact ⟨c0, c1⟩
theorem perm_snoc (x : It) (l : List It) : Perm (x :: l) (l ++ [x]) := (List.perm_append_singleton x l).symm
set_option maxHeartbeats 2000000 in
theorem r4 {l : List It} (hl : l.length ≤ 60) (a b id : Int) : vev4_1 (R l) a b id = true ∧ vev4_0 (R l) a b id = true := by
  obtain ⟨b0, b1⟩ := own8 (l := l) (by omega)
  obtain ⟨hop, hoh⟩ := ownH_spec l
  have hol := ownH_len l
  -- put in
  obtain ⟨p0, p1⟩ := push17 .imm (l := l) (by omega) (a, b)
  obtain ⟨pp, ph⟩ := pushH_spec l (a, b)
  have pl : (pushH l (a, b)).length = l.length + 1 := by rw [pp.length_eq]; simp
  obtain ⟨pz0, pz1⟩ := z13 .imm ph (by omega)
  obtain ⟨pb0, pb1⟩ := back10 .imm (l := pushH l (a, b)) (by omega)
  obtain ⟨ps0, ps1⟩ := sort12 .imm (l := pushH l (a, b)) (by omega)
  obtain ⟨w0, w1⟩ := with21 .imm (l := l) (by omega) (a, b)
  have pe : sortL (pushH l (a, b)) = sortL (l ++ [(a, b)]) := sortL_congr pp
  have sl : ∀ m : List It, (sortL m).length = m.length := fun m => (sortL_perm m).length_eq
  obtain ⟨q0, q1⟩ := same9 .imm .imm (l := sortL (l ++ [(a, b)])) (by rw [sl]; simp; omega)
  obtain ⟨y0, y1⟩ := same9 .imm .imm (l := l) (by omega)
  obtain ⟨bb0, bb1⟩ := back10 .imm (l := l) (by omega)
  obtain ⟨s0, s1⟩ := sort12 .imm (l := l) (by omega)
  obtain ⟨sq0, sq1⟩ := same9 .imm .imm (l := sortL l) (by rw [sl]; omega)
  -- taken out
  obtain ⟨o3, o4, o0, o12⟩ := pop18 .imm (l := l) (by omega)
  -- changed, dropped
  obtain ⟨f1, f2, f0⟩ := fix19 .imm (l := l) (by omega) id a
  obtain ⟨d1, d2, d0⟩ := drop20 .imm (l := l) (by omega) id
  obtain ⟨c0, c1⟩ := chk14 .imm (l := l) (by omega)
  -- the heap whose first place is asked for
  have h7 := of7 .imm (l := l) (by omega)
  obtain ⟨ob0, ob1⟩ := back10 .lent (l := ofH l) (by rw [(ofH_spec l).1.length_eq]; omega)
  have hF : ∀ m : List It, ownH l = m → vev22_0 .imm (R m) id = (match placeI id m with
      | some i => (i : Int)
      | none => -1) ∧ vev22_1 .imm (R m) id = true := fun m e => first22 .imm (by rw [← e]; omega) id
  have hdec : decide (((R l).length : Int) > 60) = false := by rw [R_len]; exact decide_eq_false (by omega)
  have h00 : ((0 : Int) != 0) = false := rfl
  have h10 : ((10 : Int) != 0) = true := rfl
  have c00 : decide ((0 : Int) ≤ 0) = true := rfl
  -- what is told of the popped
  have hpop : ∃ x r, (0 < l.length → sortL l = x :: sortL r ∧ vev18_1 .imm (R l) = x.1 ∧ vev18_2 .imm (R l) = x.2) ∧ vev18_0 .imm (R l) = R r ∧ HeapL r ∧ r.length ≤ 60 ∧ (¬ 0 < l.length → r = []) := by
    by_cases h0 : 0 < l.length
    · rw [decide_eq_true h0, cond_true] at o0
      have hi : 0 < (ownH l).length := by omega
      obtain ⟨k1, k2⟩ := cutH_spec hoh hi
      refine ⟨at' (ownH l) 0, cutH (ownH l) 0, fun _ => ⟨?_, o12 h0⟩, o0, k2, ?_, fun h => absurd h0 h⟩
      · rw [← sortL_congr hop]
        exact heap_pop hoh hi
      · rw [k1.length_eq, List.length_eraseIdx]
        split <;> omega
    · rw [decide_eq_false h0, cond_false] at o0
      exact ⟨(0, 0), [], fun h => absurd h h0, o0, fun k hk hkl => by simp at hkl, by simp, fun _ => rfl⟩
  obtain ⟨x, r, hx, r0, rh, rl, rn⟩ := hpop
  obtain ⟨rz0, rz1⟩ := z13 .imm rh (by omega)
  obtain ⟨rb0, rb1⟩ := back10 .imm (l := r) (by omega)
  obtain ⟨rs0, rs1⟩ := sort12 .imm (l := r) (by omega)
  obtain ⟨rq0, rq1⟩ := same9 .imm .imm (l := sortL r) (by rw [sl]; omega)
  -- what is told of the changed one, and of what is left
  have hfix : ∃ m m2 : List It, vev19_0 .imm (R l) id a = R m ∧ vev20_0 .imm (R l) id = R m2 ∧ HeapL m ∧ HeapL m2 ∧ m.length ≤ 60 ∧ m2.length ≤ 60 ∧ (placeI id (ownH l) = none → sortL m = sortL l ∧ sortL m2 = sortL l) ∧
      (∀ i, placeI id (ownH l) = some i → i < (ownH l).length ∧ sortL m = sortL ((ownH l).eraseIdx i ++ [(a, id)]) ∧ sortL m2 = sortL ((ownH l).eraseIdx i)) := by
    cases hp : placeI id (ownH l) with
    | none =>
      rw [hp] at f0 d0
      exact ⟨ownH l, ownH l, f0, d0, hoh, hoh, by omega, by omega, fun _ => ⟨sortL_congr hop, sortL_congr hop⟩, fun i h => by cases h⟩
    | some i =>
      rw [hp] at f0 d0
      obtain ⟨q1, q2, q3⟩ := placeI_some hp
      obtain ⟨u1, u2⟩ := setH_spec (a, id) hoh q1
      obtain ⟨k1, k2⟩ := cutH_spec hoh q1
      have el : ((ownH l).eraseIdx i).length = l.length - 1 := by rw [List.length_eraseIdx, if_pos q1, hol]
      refine ⟨setH (ownH l) i (a, id), cutH (ownH l) i, f0, d0, u2, k2, by rw [u1.length_eq, List.length_cons, el]; omega, by rw [k1.length_eq, el]; omega, fun h => by (cases h), fun j hj => ?_⟩
      injection hj with hj
      subst hj
      exact ⟨q1, sortL_congr (u1.trans (perm_snoc _ _)), sortL_congr k1⟩
  obtain ⟨m, m2, m0, n0, mh, nh, ml, nl, hnone, hsome⟩ := hfix
  obtain ⟨mz0, mz1⟩ := z13 .imm mh (by omega)
  obtain ⟨nz0, nz1⟩ := z13 .imm nh (by omega)
  obtain ⟨mb0, mb1⟩ := back10 .imm (l := m) (by omega)
  obtain ⟨nb0, nb1⟩ := back10 .imm (l := m2) (by omega)
  obtain ⟨ms0, ms1⟩ := sort12 .imm (l := m) (by omega)
  obtain ⟨ns0, ns1⟩ := sort12 .imm (l := m2) (by omega)
  -- the heap of which the document speaks
  have hE : (isH l = true ∧ ownH l = l) ∨ (isH l = false ∧ ownH l = ofH l) := by
    unfold ownH
    cases isH l
    · exact .inr ⟨rfl, rfl⟩
    · exact .inl ⟨rfl, rfl⟩
  -- the first part of the law
  have part1 : ∀ X : Bool, (bif bif vev10_1 .imm (R (pushH l (a, b))) then bif vev12_1 .imm (R (pushH l (a, b))) then X else false else false then false else true) = !X := fun X => by rw [pb1, ps1]; cases X <;> rfl
  have hs2 : ((vev12_0 .imm (R l)).length : Int) = (l.length : Int) := by rw [s0, R_len, sl]
  have lgt : decide (((R l).length : Int) > 0) = decide (0 < l.length) := by
    rw [R_len]
    by_cases h : 0 < l.length
    · rw [decide_eq_true h, decide_eq_true (by omega)]
    · rw [decide_eq_false h, decide_eq_false (by omega)]
  by_cases h0 : 0 < l.length
  · obtain ⟨e1, e2, e3⟩ := hx h0
    have g0 : (R (sortL l)).getD (Int.toNat 0) [] = rI x := by rw [e1]; rfl
    have gd : List.drop (Int.toNat 1) (R (sortL l)) = R (sortL r) := by rw [e1]; rfl
    have b1' : bnd 1 ((R (sortL l)).length : Int) ((R (sortL l)).length : Int) = true := by rw [R_len, sl]; exact bndT (by omega) (by omega) (by omega)
    have k1 : decide ((0 : Int) < ((R (sortL l)).length : Int)) = true := by rw [R_len, sl]; exact decide_eq_true (by omega)
    have i1 : intOf ((rI x).getD 0 AV.junk) = x.1 := rfl
    have i2 : intOf ((rI x).getD (0 + 1) AV.junk) = x.2 := rfl
    rcases hE with ⟨hh, ho⟩ | ⟨hh, ho⟩
    · obtain ⟨fi0, fi1⟩ := hF l ho
      rw [ho] at hnone hsome f1 d1
      cases hp : placeI id l with
      | none =>
        obtain ⟨t1, t2⟩ := hnone hp
        have fi0' : vev22_0 .imm (R l) id = -1 := by rw [fi0, hp]
        have n1 : decide ((-1 : Int) ≥ 0) = false := rfl
        have n2 : decide ((-1 : Int) < 0) = true := rfl
        rw [hp] at f1 d1
        simp only [vev4_0, vev4_1, rev4_0, rev4_1, rev4_2, rev4_3, rev4_4, rev4_5, rev4_6, rev4_7, rev4_8, rev4_9, rev4_10, rev4_11, rev4_12, rev4_13, hdec, b0, b1, p0, p1, pz0, pz1, pb0, pb1, ps0, ps1, w0, w1, pe, q0, q1, y0, y1, bb0, bb1, s0, s1, sq0, sq1, o3, o4, r0, rz0, rz1, rb0, rb1, rs0, rs1, rq0, rq1, m0, n0, mz0, mz1, nz0, nz1, mb0, mb1, nb0, nb1, ms0, ms1, ns0, ns1, f1, f2, d1, d2, c0, c1, hh, fi0', fi1, t1, t2, h00, c00, lgt, decide_eq_true h0, e2, e3, g0, gd, b1', k1, i1, i2, n1, n2, Option.isSome_none, beq_self_eq_true, Bool.not_true, Bool.not_false, Bool.and_self, Bool.and_true, cond_true, cond_false, and_self]
      | some i =>
        obtain ⟨hi, t1, t2⟩ := hsome i hp
        have fi0' : vev22_0 .imm (R l) id = (i : Int) := by rw [fi0, hp]
        have n1 : decide ((i : Int) ≥ 0) = true := decide_eq_true (by omega)
        have n2 : decide ((i : Int) < 0) = false := decide_eq_false (by omega)
        obtain ⟨x0, x1⟩ := without23 .imm hi (by omega)
        have xl : (l.eraseIdx i).length ≤ 60 := by rw [List.length_eraseIdx]; split <;> omega
        obtain ⟨xs0, xs1⟩ := sort12 .imm (l := l.eraseIdx i) (by omega)
        obtain ⟨xw0, xw1⟩ := with21 .imm (l := l.eraseIdx i) (by omega) (a, id)
        obtain ⟨xq0, xq1⟩ := same9 .imm .imm (l := sortL (l.eraseIdx i)) (by rw [sl]; omega)
        obtain ⟨xv0, xv1⟩ := same9 .imm .imm (l := sortL (l.eraseIdx i ++ [(a, id)])) (by rw [sl, List.length_append, List.length_singleton]; omega)
        rw [hp] at f1 d1
        simp only [vev4_0, vev4_1, rev4_0, rev4_1, rev4_2, rev4_3, rev4_4, rev4_5, rev4_6, rev4_7, rev4_8, rev4_9, rev4_10, rev4_11, rev4_12, rev4_13, hdec, b0, b1, p0, p1, pz0, pz1, pb0, pb1, ps0, ps1, w0, w1, pe, q0, q1, y0, y1, bb0, bb1, s0, s1, sq0, sq1, o3, o4, r0, rz0, rz1, rb0, rb1, rs0, rs1, rq0, rq1, m0, n0, mz0, mz1, nz0, nz1, mb0, mb1, nb0, nb1, ms0, ms1, ns0, ns1, f1, f2, d1, d2, c0, c1, hh, fi0', fi1, t1, t2, h00, c00, lgt, decide_eq_true h0, e2, e3, g0, gd, b1', k1, i1, i2, n1, n2, x0, x1, xs0, xs1, xw0, xw1, xq0, xq1, xv0, xv1, Option.isSome_some, beq_self_eq_true, Bool.not_true, Bool.not_false, Bool.and_self, Bool.and_true, cond_true, cond_false, and_self]
    · obtain ⟨fi0, fi1⟩ := hF (ofH l) ho
      rw [ho] at hnone hsome f1 d1
      cases hp : placeI id (ofH l) with
      | none =>
        obtain ⟨t1, t2⟩ := hnone hp
        have fi0' : vev22_0 .imm (R (ofH l)) id = -1 := by rw [fi0, hp]
        have n1 : decide ((-1 : Int) ≥ 0) = false := rfl
        have n2 : decide ((-1 : Int) < 0) = true := rfl
        rw [hp] at f1 d1
        simp only [vev4_0, vev4_1, rev4_0, rev4_1, rev4_2, rev4_3, rev4_4, rev4_5, rev4_6, rev4_7, rev4_8, rev4_9, rev4_10, rev4_11, rev4_12, rev4_13, hdec, b0, b1, p0, p1, pz0, pz1, pb0, pb1, ps0, ps1, w0, w1, pe, q0, q1, y0, y1, bb0, bb1, s0, s1, sq0, sq1, o3, o4, r0, rz0, rz1, rb0, rb1, rs0, rs1, rq0, rq1, m0, n0, mz0, mz1, nz0, nz1, mb0, mb1, nb0, nb1, ms0, ms1, ns0, ns1, f1, f2, d1, d2, c0, c1, hh, h7.1, h7.2, ob0, ob1, fi0', fi1, t1, t2, h00, h10, c00, lgt, decide_eq_true h0, e2, e3, g0, gd, b1', k1, i1, i2, n1, n2, Option.isSome_none, beq_self_eq_true, Bool.not_true, Bool.not_false, Bool.and_self, Bool.and_true, cond_true, cond_false, and_self]
      | some i =>
        obtain ⟨hi, t1, t2⟩ := hsome i hp
        have fl : (ofH l).length = l.length := (ofH_spec l).1.length_eq
        have fi0' : vev22_0 .imm (R (ofH l)) id = (i : Int) := by rw [fi0, hp]
        have n1 : decide ((i : Int) ≥ 0) = true := decide_eq_true (by omega)
        have n2 : decide ((i : Int) < 0) = false := decide_eq_false (by omega)
        obtain ⟨x0, x1⟩ := without23 .imm hi (by omega)
        have xl : ((ofH l).eraseIdx i).length ≤ 60 := by rw [List.length_eraseIdx]; split <;> omega
        obtain ⟨xs0, xs1⟩ := sort12 .imm (l := (ofH l).eraseIdx i) (by omega)
        obtain ⟨xw0, xw1⟩ := with21 .imm (l := (ofH l).eraseIdx i) (by omega) (a, id)
        obtain ⟨xq0, xq1⟩ := same9 .imm .imm (l := sortL ((ofH l).eraseIdx i)) (by rw [sl]; omega)
        obtain ⟨xv0, xv1⟩ := same9 .imm .imm (l := sortL ((ofH l).eraseIdx i ++ [(a, id)])) (by rw [sl, List.length_append, List.length_singleton]; omega)
        rw [hp] at f1 d1
        simp only [vev4_0, vev4_1, rev4_0, rev4_1, rev4_2, rev4_3, rev4_4, rev4_5, rev4_6, rev4_7, rev4_8, rev4_9, rev4_10, rev4_11, rev4_12, rev4_13, hdec, b0, b1, p0, p1, pz0, pz1, pb0, pb1, ps0, ps1, w0, w1, pe, q0, q1, y0, y1, bb0, bb1, s0, s1, sq0, sq1, o3, o4, r0, rz0, rz1, rb0, rb1, rs0, rs1, rq0, rq1, m0, n0, mz0, mz1, nz0, nz1, mb0, mb1, nb0, nb1, ms0, ms1, ns0, ns1, f1, f2, d1, d2, c0, c1, hh, h7.1, h7.2, ob0, ob1, fi0', fi1, t1, t2, h00, h10, c00, lgt, decide_eq_true h0, e2, e3, g0, gd, b1', k1, i1, i2, n1, n2, x0, x1, xs0, xs1, xw0, xw1, xq0, xq1, xv0, xv1, Option.isSome_some, beq_self_eq_true, Bool.not_true, Bool.not_false, Bool.and_self, Bool.and_true, cond_true, cond_false, and_self]
  · have hnil : l = [] := List.length_eq_zero_iff.1 (by omega)
    have hr := rn h0
    subst hr
    have hh : isH l = true := isH_iff.2 fun k hk hkl => by omega
    have ho : ownH l = l := own_of_heap (isH_iff.1 hh)
    obtain ⟨fi0, fi1⟩ := hF l ho
    rw [ho] at hnone f1 d1
    have hp : placeI id l = none := by rw [hnil]; rfl
    obtain ⟨t1, t2⟩ := hnone hp
    have fi0' : vev22_0 .imm (R l) id = -1 := by rw [fi0, hp]
    have n1 : decide ((-1 : Int) ≥ 0) = false := rfl
    have n2 : decide ((-1 : Int) < 0) = true := rfl
    have z0 : ((R ([] : List It)).length : Int) = 0 := rfl
    rw [hp] at f1 d1
    have z1 : (((0 : Nat) : Int) != 0) = false := rfl
    simp only [vev4_0, vev4_1, rev4_0, rev4_1, rev4_2, rev4_3, rev4_4, rev4_5, rev4_6, rev4_7, rev4_8, rev4_9, rev4_10, rev4_11, rev4_12, rev4_13, hdec, b0, b1, p0, p1, pz0, pz1, pb0, pb1, ps0, ps1, w0, w1, pe, q0, q1, y0, y1, bb0, bb1, s0, s1, sq0, sq1, o3, o4, r0, rz0, rz1, rb0, rb1, rs0, rs1, rq0, rq1, m0, n0, mz0, mz1, nz0, nz1, mb0, mb1, nb0, nb1, ms0, ms1, ns0, ns1, f1, f2, d1, d2, c0, c1, hh, fi0', fi1, t1, t2, h00, c00, lgt, decide_eq_false h0, n1, n2, z0, Option.isSome_none, beq_self_eq_true, Bool.not_true, Bool.not_false, Bool.and_self, Bool.and_true, cond_true, cond_false, and_self]
/-- Rows of items, as items. -/
theorem rows_R {es : List (List AV)} (h : ∀ e ∈ es, okKL [.int .i64, .int .i64] e) : ∃ l : List It, es = R l := by
  induction es with
  | nil => exact ⟨[], rfl⟩
  | cons e es ih =>
    obtain ⟨l, hl⟩ := ih fun x hx => h x (List.mem_cons_of_mem _ hx)
    have hk := h e List.mem_cons_self
    simp only [okKL, okK] at hk
    obtain ⟨x, xs, e1, ⟨a, rfl, wa⟩, y, ys, rfl, ⟨b, rfl, wb⟩, rfl⟩ := hk
    exact ⟨(a, b) :: l, by rw [e1, hl]; rfl⟩
theorem law4 {es : List (List AV)} {a b id : Int} (h : ∀ e ∈ es, okKL [.int .i64, .int .i64] e) : FnOK Try.prog 4 [.sl .imm [.int .i64, .int .i64] es, .agg [.int .i64 a, .int .i64 b], .int .i64 id] [] (.bool true) [] := by
  obtain ⟨l, rfl⟩ := rows_R h
  have key : vev4_1 (R l) a b id = true ∧ vev4_0 (R l) a b id = true := by
    rcases Nat.lt_or_ge 60 l.length with hl | hl
    · unfold vev4_1 vev4_0
      rw [R_len, decide_eq_true (by omega)]
      exact ⟨rfl, rfl⟩
    · exact r4 hl a b id
  have he := ev4 (R l) a b id
  rw [key.1, key.2, cond_true] at he
  exact (fn_ok mixed plain (gk_ok k9_ok 30) Try.func4 (fun c _ => LoopsOK.none (fun _ _ => rfl) c) he).2
end Go.Proofs.Gv
