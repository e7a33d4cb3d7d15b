/-
Aging: what a service and a new request leave of a queue that may be.
-/
import Derived.Test.YtgaadhlneglidaaGpAg3
namespace Go.Proofs.Gv
open Go.Proofs
set_option linter.unusedVariables false
variable {es es2 : List (List AV)} {l id rank cost q : Int}
theorem gD_set {i j : Nat} {r : List AV} : (es.set i r).getD j [] = if j = i ∧ i < es.length then r else es.getD j [] := by
  simp only [List.getD_eq_getElem?_getD, List.getElem?_set]
  by_cases h : i = j
  · subst h
    by_cases h2 : i < es.length
    · simp [h2]
    · simp [h2]
  · simp [h, Ne.symm h, show ¬ j = i from fun e => h e.symm]
theorem q_set {i j : Nat} {a b c d : Int} : q0 (es.set i [.int .i64 a, .int .i64 b, .int .i64 c, .int .i64 d]) j = (if j = i ∧ i < es.length then a else q0 es j) ∧ q1 (es.set i [.int .i64 a, .int .i64 b, .int .i64 c, .int .i64 d]) j = (if j = i ∧ i < es.length then b else q1 es j) ∧ q2 (es.set i [.int .i64 a, .int .i64 b, .int .i64 c, .int .i64 d]) j = (if j = i ∧ i < es.length then c else q2 es j) ∧ q3 (es.set i [.int .i64 a, .int .i64 b, .int .i64 c, .int .i64 d]) j = (if j = i ∧ i < es.length then d else q3 es j) := by
  unfold q0 q1 q2 q3
  rw [gD_set]
  by_cases h : j = i ∧ i < es.length
  · refine ⟨?_, ?_, ?_, ?_⟩ <;> rw [if_pos h, if_pos h] <;> rfl
  · refine ⟨?_, ?_, ?_, ?_⟩ <;> rw [if_neg h, if_neg h]
theorem q_ag : ∀ (k : Nat) (_ : k ≤ es.length) (j : Nat), q0 (ag es k) j = q0 es j ∧ q1 (ag es k) j = q1 es j ∧ q2 (ag es k) j = q2 es j ∧ q3 (ag es k) j = (if j < k then mn (IntKind.i64.wrap (q3 es j + 1)) else q3 es j)
  | 0, _, j => ⟨rfl, rfl, rfl, by rw [if_neg (Nat.not_lt_zero j)]; rfl⟩
  | k + 1, hk, j => by
    have ih := q_ag k (by omega)
    have hl := ag_len es k
    have hs := q_set (es := ag es k) (i := k) (j := j) (a := q0 (ag es k) k) (b := q1 (ag es k) k) (c := q2 (ag es k) k) (d := mn (IntKind.i64.wrap (q3 (ag es k) k + 1)))
    obtain ⟨s0, s1, s2, s3⟩ := hs
    show q0 (st3 (ag es k) k) j = _ ∧ q1 (st3 (ag es k) k) j = _ ∧ q2 (st3 (ag es k) k) j = _ ∧ q3 (st3 (ag es k) k) j = _
    unfold st3
    rw [s0, s1, s2, s3, hl]
    by_cases h : j = k
    · subst h
      rw [if_pos ⟨rfl, by omega⟩, if_pos ⟨rfl, by omega⟩, if_pos ⟨rfl, by omega⟩, if_pos ⟨rfl, by omega⟩, if_pos (by omega), (ih j).1, (ih j).2.1, (ih j).2.2.1, (ih j).2.2.2, if_neg (by omega)]
      exact ⟨rfl, rfl, rfl, rfl⟩
    · rw [if_neg (fun e => h e.1), if_neg (fun e => h e.1), if_neg (fun e => h e.1), if_neg (fun e => h e.1), (ih j).1, (ih j).2.1, (ih j).2.2.1, (ih j).2.2.2]
      refine ⟨rfl, rfl, rfl, ?_⟩
      by_cases h2 : j < k
      · rw [if_pos h2, if_pos (by omega)]
      · rw [if_neg h2, if_neg (by omega)]
theorem gD_wo {k j : Nat} (hk : k < es.length) : (wo es k).getD j [] = es.getD (if j < k then j else j + 1) [] := by
  unfold wo
  simp only [List.getD_eq_getElem?_getD]
  have l1 : (es.take k).length = k := by rw [List.length_take]; omega
  by_cases h : j < k
  · rw [if_pos h, List.getElem?_append_left (by omega), List.getElem?_take_of_lt h]
  · rw [if_neg h, List.getElem?_append_right (by omega), l1, List.getElem?_drop, show k + 1 + (j - k) = j + 1 by omega]
theorem q_wo {k j : Nat} (hk : k < es.length) : q0 (wo es k) j = q0 es (if j < k then j else j + 1) ∧ q1 (wo es k) j = q1 es (if j < k then j else j + 1) ∧ q2 (wo es k) j = q2 es (if j < k then j else j + 1) ∧ q3 (wo es k) j = q3 es (if j < k then j else j + 1) := by
  unfold q0 q1 q2 q3
  rw [gD_wo hk]
  exact ⟨rfl, rfl, rfl, rfl⟩
theorem len_wo {k : Nat} (hk : k < es.length) : (wo es k).length = es.length - 1 := by
  unfold wo
  rw [List.length_append, List.length_take, List.length_drop]
  omega
theorem good_wo {k : Nat} (hk : k < es.length) (lim : 1 ≤ l ∧ l ≤ 1000) (len : es.length ≤ 16) (fit : ∀ i, i < es.length → i ≠ k → vev28_0 (q0 es i) (q1 es i) (q2 es i) (q3 es i) = true) (one : ∀ i j, i < es.length → j < es.length → q0 es j = q0 es i → j = i) : Good l (wo es k) := by
  have hl := len_wo hk
  refine ⟨lim, by omega, fun i hi => ?_, fun i j hi hj he => ?_⟩
  · obtain ⟨h0, h1, h2, h3⟩ := q_wo (j := i) hk
    rw [h0, h1, h2, h3]
    by_cases h : i < k
    · rw [if_pos h]; exact fit _ (by omega) (by omega)
    · rw [if_neg h]; exact fit _ (by omega) (by omega)
  · rw [(q_wo (j := i) hk).1, (q_wo (j := j) hk).1] at he
    have h := one _ _ (by split <;> omega) (by split <;> omega) he
    split at h <;> split at h <;> omega
theorem good_chk (g : Good l es) : chk l es = 0 := by
  unfold chk
  have h3 : bad es = false := by
    unfold bad
    rw [ff_of (k := es.length) (Nat.le_refl _) (fun h => absurd h (Nat.lt_irrefl _)) (fun j hj => by rw [g.fit j hj]; rfl)]
    exact decide_eq_false (Nat.lt_irrefl _)
  have h4 : ff (dup es) es.length = es.length := ff_of (Nat.le_refl _) (fun h => absurd h (Nat.lt_irrefl _)) (fun j hj => by
    unfold dup
    rw [g.place hj]
    exact decide_eq_false (by omega))
  rw [(in34 l 1 1000).2 g.lim, decide_eq_false (show ¬ 16 < es.length by have := g.len; omega), h3, h4, decide_eq_false (Nat.lt_irrefl _)]
  rfl
/-- How many units are done, and what that leaves. -/
def un (es : List (List AV)) (k : Nat) (q : Int) : Int := if q2 es k < q then q2 es k else q
def sq (es : List (List AV)) (k : Nat) (q : Int) : List (List AV) := (ag es k).set k [.int .i64 (q0 es k), .int .i64 (q1 es k), .int .i64 (q2 es k - un es k q), .int .i64 (q3 es k)]
theorem sq_len (k : Nat) : (sq es k q).length = es.length := by unfold sq; rw [List.length_set, ag_len]
theorem q_sq {k : Nat} (hk : k < es.length) (j : Nat) : q0 (sq es k q) j = q0 es j ∧ q1 (sq es k q) j = q1 es j ∧ q2 (sq es k q) j = (if j = k then q2 es k - un es k q else q2 es j) ∧ q3 (sq es k q) j = (if j < k then mn (IntKind.i64.wrap (q3 es j + 1)) else q3 es j) := by
  have ha := q_ag k (by omega : k ≤ es.length) j
  have hl := ag_len es k
  obtain ⟨s0, s1, s2, s3⟩ := q_set (es := ag es k) (i := k) (j := j) (a := q0 es k) (b := q1 es k) (c := q2 es k - un es k q) (d := q3 es k)
  unfold sq
  rw [s0, s1, s2, s3, hl, ha.1, ha.2.1, ha.2.2.1, ha.2.2.2]
  by_cases h : j = k
  · subst h
    refine ⟨by rw [if_pos ⟨rfl, hk⟩], by rw [if_pos ⟨rfl, hk⟩], by rw [if_pos ⟨rfl, hk⟩, if_pos rfl], by rw [if_pos ⟨rfl, hk⟩, if_neg (Nat.lt_irrefl _)]⟩
  · exact ⟨by rw [if_neg (fun e => h e.1)], by rw [if_neg (fun e => h e.1)], by rw [if_neg (fun e => h e.1), if_neg h], by rw [if_neg (fun e => h e.1)]⟩
/-- What a service leaves. -/
def sv (es : List (List AV)) (k : Nat) (q : Int) : List (List AV) := bif decide (q2 es k - un es k q = 0) then wo (sq es k q) k else sq es k q
theorem s15 {k : Nat} (g : Good l es) (hk : k < es.length) (hn : nx l es = (k : Int)) (hq : 1 ≤ q) : vev14_0 l es q = sv es k q ∧ vev14_1 l es q = q0 es k ∧ vev14_3 l es q = q2 es k - un es k q ∧ vev14_5 l es q = un es k q := by
  have hN : es.length ≤ 1000 := by have := g.len; omega
  have h14 := r14 (l := l) (q := q) hN
  obtain ⟨⟨e0, e1, e2, e3, e4, e5⟩, _⟩ := h14
  rw [e0, e1, e3, e5]
  have h21 := r21 (tk := .imm) (l := l) (es := es) hN
  rw [hn] at h21
  have h5 := (ends15 (q := q) (l := l) (Nat.le_of_lt hk) hN).fin
  have b1 : rev15_1 l es q = ag es k := by unfold rev15_1 rev15_0; rw [h21.1, h5.2]
  have f := fits.1 (g.fit k hk)
  have ha := q_ag k (by omega : k ≤ es.length) k
  have b3 : rev15_3 l es q = q2 es k := by
    unfold rev15_3
    rw [b1, h21.1, Int.toNat_natCast]
    exact ha.2.2.1
  have b4 : rev15_4 l es q = un es k q := by
    unfold rev15_4 un
    rw [b3]
    simp only [Bool.false_eq_true, if_false]
  have hu : 0 ≤ un es k q ∧ un es k q ≤ q2 es k := by unfold un; split <;> omega
  have b5 : rev15_5 l es q = sq es k q := by
    unfold rev15_5
    rw [b4, b3, b1, h21.1, Int.toNat_natCast, wrapOf _ (by omega) (by omega)]
    have i0 : intOf (((ag es k).getD k []).getD (0 : Nat) AV.junk) = q0 es k := ha.1
    have i1 : intOf (((ag es k).getD k []).getD ((0 : Nat) + (1 : Nat)) AV.junk) = q1 es k := ha.2.1
    have i3 : intOf (((ag es k).getD k []).getD ((0 : Nat) + (1 : Nat) + (1 : Nat) + (1 : Nat)) AV.junk) = q3 es k := by
      have h := ha.2.2.2
      rw [if_neg (Nat.lt_irrefl _)] at h
      exact h
    rw [i0, i1, i3]
    rfl
  have b7 : rev15_7 l es q = q2 es k - un es k q := by
    unfold rev15_7
    rw [b5, h21.1, Int.toNat_natCast]
    have h := (q_sq (q := q) hk k).2.2.1
    rw [if_pos rfl] at h
    exact h
  have c0 : intOf (((sq es k q).getD k []).getD (0 : Nat) AV.junk) = q0 es k := (q_sq (q := q) hk k).1
  have d5 := (r33l (l := l) (es := sq es k q) (k := k) (by rw [sq_len]; exact hk) (by rw [sq_len]; exact hN)).1
  unfold vev15_0 vev15_1 vev15_3 vev15_5
  rw [b4, b7, b5, h21.1, d5, Int.toNat_natCast, c0, decide_eq_false (show ¬ (k : Int) < 0 by omega), decide_eq_false (show ¬ q < 1 by omega)]
  exact ⟨rfl, rfl, rfl, rfl⟩
theorem mn_le (x : Int) : mn x ≤ 2000 := by unfold mn; split <;> omega
theorem mn_w {x : Int} (h0 : 0 ≤ x) (h1 : x ≤ 2000) : 0 ≤ mn (IntKind.i64.wrap (x + 1)) ∧ mn (IntKind.i64.wrap (x + 1)) ≤ 2000 ∧ mn (IntKind.i64.wrap (x + 1)) ≤ x + 1 ∧ (x < 2000 → mn (IntKind.i64.wrap (x + 1)) = x + 1) := by
  rw [wrapOf _ (by omega) (by omega)]
  unfold mn
  split <;> refine ⟨?_, ?_, ?_, fun _ => ?_⟩ <;> omega
theorem un_le {k : Nat} (g : Good l es) (hk : k < es.length) (hq : 1 ≤ q) : 1 ≤ un es k q ∧ un es k q ≤ q2 es k ∧ un es k q ≤ q := by
  have f := fits.1 (g.fit k hk)
  unfold un
  split <;> omega
theorem sv_good {k : Nat} (g : Good l es) (hk : k < es.length) (hq : 1 ≤ q) : Good l (sv es k q) := by
  have hu := un_le g hk hq
  have hl := sq_len (es := es) (q := q) k
  have fit : ∀ i, i < es.length → (i ≠ k ∨ q2 es k - un es k q ≠ 0) → vev28_0 (q0 (sq es k q) i) (q1 (sq es k q) i) (q2 (sq es k q) i) (q3 (sq es k q) i) = true := fun i hi ho => by
    obtain ⟨s0, s1, s2, s3⟩ := q_sq (q := q) hk i
    have f := fits.1 (g.fit i hi)
    have fk := fits.1 (g.fit k hk)
    have hm := mn_w (x := q3 es i) (by omega) (by omega)
    rw [s0, s1, s2, s3]
    refine fits.2 ⟨f.1, f.2.1, ?_, ?_⟩
    · split <;> omega
    · split <;> omega
  have one : ∀ i j, i < es.length → j < es.length → q0 (sq es k q) j = q0 (sq es k q) i → j = i := fun i j hi hj he => by
    rw [(q_sq (q := q) hk i).1, (q_sq (q := q) hk j).1] at he
    exact g.one i j hi hj he
  unfold sv
  by_cases h : q2 es k - un es k q = 0
  · rw [decide_eq_true h]
    exact good_wo (by omega) g.lim (by rw [hl]; exact g.len) (fun i hi hik => fit i (by omega) (Or.inl hik)) (fun i j hi hj => one i j (by omega) (by omega))
  · rw [decide_eq_false h]
    exact ⟨g.lim, by rw [cond_false, hl]; exact g.len, fun i hi => fit i (by rw [cond_false] at hi; omega) (Or.inr h), fun i j hi hj => one i j (by rw [cond_false] at hi; omega) (by rw [cond_false] at hj; omega)⟩
/-- Where a request lies ahead of a service. -/
theorem sv_at {k : Nat} (g : Good l es) (hk : k < es.length) (hq : 1 ≤ q) {j : Nat} (hj : j < (sv es k q).length) : ∃ i, i < es.length ∧ (i = j ∨ (i = j + 1 ∧ k ≤ j)) ∧ (q2 es k - un es k q = 0 → i ≠ k ∧ (i = j ↔ j < k)) ∧ (q2 es k - un es k q ≠ 0 → i = j) ∧ q0 (sv es k q) j = q0 es i ∧ q1 (sv es k q) j = q1 es i ∧ q2 (sv es k q) j = (if i = k then q2 es k - un es k q else q2 es i) ∧ q3 (sv es k q) j = (if i < k then mn (IntKind.i64.wrap (q3 es i + 1)) else q3 es i) := by
  have hl := sq_len (es := es) (q := q) k
  unfold sv at hj ⊢
  by_cases h : q2 es k - un es k q = 0
  · rw [decide_eq_true h, cond_true] at hj ⊢
    have hk' : k < (sq es k q).length := by omega
    rw [len_wo hk'] at hj
    obtain ⟨w0, w1, w2, w3⟩ := q_wo (es := sq es k q) (j := j) hk'
    obtain ⟨s0, s1, s2, s3⟩ := q_sq (q := q) hk (if j < k then j else j + 1)
    refine ⟨if j < k then j else j + 1, by split <;> omega, by split <;> omega, fun _ => ⟨by split <;> omega, by split <;> omega⟩, fun h2 => absurd h h2, w0.trans s0, w1.trans s1, w2.trans s2, w3.trans s3⟩
  · rw [decide_eq_false h, cond_false] at hj ⊢
    obtain ⟨s0, s1, s2, s3⟩ := q_sq (q := q) hk j
    exact ⟨j, by omega, Or.inl rfl, fun h2 => absurd h2 h, fun _ => rfl, s0, s1, s2, s3⟩
theorem sv_len {k : Nat} (hk : k < es.length) : (sv es k q).length = if q2 es k - un es k q = 0 then es.length - 1 else es.length := by
  have hl := sq_len (es := es) (q := q) k
  unfold sv
  by_cases h : q2 es k - un es k q = 0
  · rw [decide_eq_true h, cond_true, len_wo (by omega), hl, if_pos h]
  · rw [decide_eq_false h, cond_false, hl, if_neg h]
theorem nx_some (g : Good l es) (h0 : 0 < es.length) : ∃ k, k < es.length ∧ nx l es = (k : Int) ∧ ∀ j, j < k → q3 es j < l := by
  have hc := good_chk g
  have e : nx l es = bif decide (ff (fun i => decide (q3 es i ≥ l)) es.length < es.length) then ((ff (fun i => decide (q3 es i ≥ l)) es.length : Nat) : Int) else ((amN es (es.length - 1) : Nat) : Int) := by
    unfold nx
    rw [hc, decide_eq_true h0]
    rfl
  rw [e]
  have hm : ∀ j, j < ff (fun i => decide (q3 es i ≥ l)) es.length → q3 es j < l := fun j hj => by
    have := ff_miss hj
    have := of_decide_eq_false this
    omega
  by_cases h2 : ff (fun i => decide (q3 es i ≥ l)) es.length < es.length
  · rw [decide_eq_true h2]
    exact ⟨_, h2, rfl, hm⟩
  · rw [decide_eq_false h2]
    have ha := amN_le es (es.length - 1)
    exact ⟨amN es (es.length - 1), by omega, rfl, fun j hj => hm j (by omega)⟩
theorem nx_none (h0 : es.length = 0) : nx l es < 0 := by
  unfold nx
  rw [h0, decide_eq_false (Nat.lt_irrefl _), decide_eq_false (show ¬ ff (fun i => decide (q3 es i ≥ l)) 0 < 0 by omega)]
  cases (chk l es != 0) <;> exact (by omega : (-1 : Int) < 0)
/-- Old requests are served first. -/
theorem nx_old (g : Good l es) {k : Nat} (hn : nx l es = (k : Int)) (hk : k < es.length) {j : Nat} (hj : j < es.length) (ho : l ≤ q3 es j) : k ≤ j := by
  obtain ⟨k2, h2, h3, h4⟩ := nx_some g (by omega)
  have : k2 = k := by omega
  subst this
  by_cases h : k2 ≤ j
  · exact h
  · have := h4 j (by omega); omega
/-- What a push leaves. -/
def pu (es : List (List AV)) (id rank cost : Int) : List (List AV) := es ++ [[.int .i64 id, .int .i64 rank, .int .i64 cost, .int .i64 0]]
theorem q_pu (j : Nat) : q0 (pu es id rank cost) j = (if j = es.length then id else q0 es j) ∧ q1 (pu es id rank cost) j = (if j = es.length then rank else q1 es j) ∧ q2 (pu es id rank cost) j = (if j = es.length then cost else q2 es j) ∧ q3 (pu es id rank cost) j = (if j = es.length then 0 else q3 es j) := by
  have e : (pu es id rank cost).getD j [] = if j = es.length then [.int .i64 id, .int .i64 rank, .int .i64 cost, .int .i64 0] else es.getD j [] := by
    unfold pu
    simp only [List.getD_eq_getElem?_getD]
    rcases Nat.lt_trichotomy j es.length with h | h | h
    · rw [List.getElem?_append_left h, if_neg (by omega)]
    · rw [List.getElem?_append_right (by omega), h, Nat.sub_self, if_pos rfl]
      rfl
    · rw [List.getElem?_append_right (by omega), if_neg (by omega), List.getElem?_eq_none (by simp; omega), List.getElem?_eq_none (by omega)]
  unfold q0 q1 q2 q3
  rw [e]
  by_cases h : j = es.length
  · refine ⟨?_, ?_, ?_, ?_⟩ <;> rw [if_pos h, if_pos h] <;> rfl
  · refine ⟨?_, ?_, ?_, ?_⟩ <;> rw [if_neg h, if_neg h]
theorem pu_len : (pu es id rank cost).length = es.length + 1 := by unfold pu; rw [List.length_append]; rfl
theorem pu_good (g : Good l es) (hl : es.length < 16) (hf : vev28_0 id rank cost 0 = true) (hn : ∀ j, j < es.length → q0 es j ≠ id) : Good l (pu es id rank cost) := by
  refine ⟨g.lim, by rw [pu_len]; omega, fun i hi => ?_, fun i j hi hj he => ?_⟩
  · rw [pu_len] at hi
    obtain ⟨p0, p1, p2, p3⟩ := q_pu (es := es) (id := id) (rank := rank) (cost := cost) i
    rw [p0, p1, p2, p3]
    by_cases h : i = es.length
    · simp only [if_pos h]; exact hf
    · simp only [if_neg h]; exact g.fit i (by omega)
  · rw [pu_len] at hi hj
    rw [(q_pu (es := es) (id := id) (rank := rank) (cost := cost) i).1, (q_pu (es := es) (id := id) (rank := rank) (cost := cost) j).1] at he
    by_cases h : i = es.length
    · by_cases h2 : j = es.length
      · omega
      · rw [if_pos h, if_neg h2] at he
        exact absurd he (hn j (by omega))
    · by_cases h2 : j = es.length
      · rw [if_neg h, if_pos h2] at he
        exact absurd he.symm (hn i (by omega))
      · rw [if_neg h, if_neg h2] at he
        exact g.one i j (by omega) (by omega) he
theorem ix_none (hn : ∀ j, j < es.length → q0 es j ≠ id) : ix (fun i => q0 es i == id) es.length = -1 := by
  unfold ix
  rw [ff_of (k := es.length) (Nat.le_refl _) (fun h => absurd h (Nat.lt_irrefl _)) (fun j hj => by simpa using hn j hj), if_neg (Nat.lt_irrefl _)]
theorem s10 (g : Good l es) (hl : es.length < 16) (hf : vev28_0 id rank cost 0 = true) (hn : ∀ j, j < es.length → q0 es j ≠ id) : vev10_0 l es id rank cost = pu es id rank cost ∧ vev10_1 l es id rank cost = 0 ∧ vev10_2 l es id rank cost = true := by
  have hN : es.length ≤ 1000 := by omega
  refine ⟨?_, ?_, (r10 hN).2.2.1⟩
  · unfold vev10_0
    rw [(r24 hN).1, good_chk g, hf, (r36a hN).1, ix_none hn, decide_eq_false (show ¬ (es.length : Int) ≥ 16 by omega)]
    rfl
  · unfold vev10_1
    rw [(r24 hN).1, good_chk g, hf, (r36a hN).1, ix_none hn, decide_eq_false (show ¬ (es.length : Int) ≥ 16 by omega)]
    rfl
end Go.Proofs.Gv
