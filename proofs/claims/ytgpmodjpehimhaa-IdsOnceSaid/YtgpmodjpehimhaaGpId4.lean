/-
The plain law of IdsOnce.
-/
import Derived.Test.YtgpmodjpehimhaaGpIdB
import Derived.Test.YtgpmodjpehimhaaGaId4
namespace Go.Proofs.Gv
open Go.Proofs
set_option linter.unusedVariables false
variable {tk tk2 : Tk} {es es2 ls : List (List AV)} {l id last : Int} {cut : Bool}
/-- A table that may be. -/
structure Tb (l : Int) (es es2 : List (List AV)) : Prop where
  l0 : l = 0 ∨ od l = true
  n1 : es.length ≤ 16
  n2 : es2.length ≤ 8
  up : ∀ i, i + 1 < es.length → at0 es i < at0 es (i + 1)
  a1 : ∀ i, i < es.length → od (at0 es i) = true ∧ at0 es i ≤ l
  a2 : ∀ i, i < es2.length → od (at0 es2 i) = true ∧ at0 es2 i ≤ l
  d1 : ∀ i j, i < es2.length → j < es.length → at0 es j ≠ at0 es2 i
  d2 : ∀ i j, i < es2.length → j < i → at0 es2 j ≠ at0 es2 i
theorem Tb.lt (t : Tb l es es2) {i j : Nat} (hj : j < es.length) (h : i < j) : at0 es i < at0 es j := by
  induction j with
  | zero => omega
  | succ j ih =>
    have h1 := t.up j hj
    by_cases h2 : i = j
    · subst h2; exact h1
    · have := ih (by omega) (by omega); omega
theorem alien_no {l : Int} {es : List (List AV)} : alien l es = false ↔ ∀ i, i < es.length → od (at0 es i) = true ∧ at0 es i ≤ l := by
  unfold alien
  rw [hasF_no]
  constructor
  · intro h i hi
    have := h i (Nat.zero_le _) hi
    simp only [Bool.or_eq_false_iff, Bool.not_eq_false', decide_eq_false_iff_not] at this
    exact ⟨this.1, by omega⟩
  · intro h i _ hi
    have := h i hi
    simp only [Bool.or_eq_false_iff, Bool.not_eq_false', decide_eq_false_iff_not]
    exact ⟨this.1, by omega⟩
theorem Tb.chk (t : Tb l es es2) : chkI l es es2 = 0 := by
  have h1 : (bif l != 0 then !od l else false) = false := by
    rcases t.l0 with h | h
    · rw [h]; rfl
    · rw [h]; cases (l != 0) <;> rfl
  have h2 : fall es = false := hasF_no.2 fun i hi hl => by
    have := t.up (i - 1) (by omega)
    rw [show i - 1 + 1 = i by omega] at this
    exact decide_eq_false (by omega)
  have h3 : twc es es2 = false := hasF_no.2 fun i _ hi => by
    rw [inn_no.2 (fun j hj => t.d1 i j hi hj), Bool.false_or]
    refine inn_no.2 fun j hj => ?_
    rw [List.length_take] at hj
    rw [at0_take (by omega)]
    exact t.d2 i j hi (by omega)
  unfold chkI
  rw [h1, h2, h3, alien_no.2 t.a1, alien_no.2 t.a2, decide_eq_false (show ¬ es.length > 16 by have := t.n1; omega), decide_eq_false (show ¬ es2.length > 8 by have := t.n2; omega)]
  rfl
/-- A list without what lies at a place. -/
def wI (es : List (List AV)) (k : Nat) : List (List AV) := es.take k ++ es.drop (k + 1)
theorem wI_len {k : Nat} (hk : k < es.length) : (wI es k).length = es.length - 1 := by
  unfold wI
  rw [List.length_append, List.length_take, List.length_drop]
  omega
theorem wI_at {k j : Nat} (hk : k < es.length) : at0 (wI es k) j = at0 es (if j < k then j else j + 1) := by
  unfold wI at0
  simp only [List.getD_eq_getElem?_getD]
  have l1 : (es.take k).length = k := by rw [List.length_take]; omega
  by_cases h : j < k
  · rw [if_pos h, List.getElem?_append_left (by omega), List.getElem?_take_of_lt h]
  · rw [if_neg h, List.getElem?_append_right (by omega), l1, List.getElem?_drop, show k + 1 + (j - k) = j + 1 by omega]
theorem app_at (a : Int) (j : Nat) : at0 (es ++ [[.int .i64 a]]) j = if j = es.length then a else at0 es j := by
  unfold at0
  simp only [List.getD_eq_getElem?_getD]
  rcases Nat.lt_trichotomy j es.length with h | h | h
  · rw [List.getElem?_append_left h, if_neg (by omega)]
  · rw [List.getElem?_append_right (by omega), h, Nat.sub_self, if_pos rfl]
    rfl
  · rw [List.getElem?_append_right (by omega), if_neg (by omega), List.getElem?_eq_none (l := [[AV.int .i64 a]]) (i := j - es.length) (by simp; omega), List.getElem?_eq_none (l := es) (i := j) (by omega)]
theorem app_len (a : Int) : (es ++ [[AV.int .i64 a]]).length = es.length + 1 := by rw [List.length_append]; rfl
theorem drop_at (d j : Nat) : at0 (es.drop d) j = at0 es (d + j) := by
  unfold at0
  simp only [List.getD_eq_getElem?_getD]
  rw [List.getElem?_drop]
theorem Tb.drop (t : Tb l es es2) {k : Nat} (hk : k < es.length) : Tb l (wI es k) es2 := by
  have hl := wI_len hk
  have n1 := t.n1
  refine ⟨t.l0, by omega, t.n2, fun i hi => ?_, fun i hi => ?_, t.a2, fun i j hi hj => ?_, t.d2⟩
  · rw [wI_at hk, wI_at hk]
    exact t.lt (by split <;> omega) (by split <;> split <;> omega)
  · rw [wI_at hk]
    exact t.a1 _ (by split <;> omega)
  · rw [wI_at hk]
    exact t.d1 i _ hi (by split <;> omega)
theorem Tb.gone (t : Tb l es es2) {k : Nat} (hk : k < es.length) : inn (wI es k) (at0 es k) = false := by
  have hl := wI_len hk
  refine inn_no.2 fun j hj => ?_
  rw [wI_at hk]
  by_cases h : j < k
  · rw [if_pos h]
    have := t.lt hk h
    omega
  · rw [if_neg h]
    have := t.lt (i := k) (j := j + 1) (by omega) (by omega)
    omega
/-- The cut ones that are kept. -/
def cutI (es2 : List (List AV)) (id : Int) : List (List AV) := (es2 ++ [[AV.int .i64 id]]).drop (es2.length + 1 - 8)
theorem cutI_len : (cutI es2 id).length = es2.length + 1 - (es2.length + 1 - 8) := by unfold cutI; rw [List.length_drop, app_len]
theorem cutI_at (j : Nat) : at0 (cutI es2 id) j = if es2.length + 1 - 8 + j = es2.length then id else at0 es2 (es2.length + 1 - 8 + j) := by unfold cutI; rw [drop_at, app_at]
theorem Tb.cutT (t : Tb l es es2) (h1 : od id = true) (h2 : id ≤ l) (h3 : ∀ j, j < es.length → at0 es j ≠ id) (h4 : ∀ j, j < es2.length → at0 es2 j ≠ id) : Tb l es (cutI es2 id) := by
  have n2 := t.n2
  have hl := cutI_len (es2 := es2) (id := id)
  refine ⟨t.l0, t.n1, by omega, t.up, t.a1, fun i hi => ?_, fun i j hi hj => ?_, fun i j hi hj => ?_⟩
  · rw [cutI_at]
    by_cases h : es2.length + 1 - 8 + i = es2.length
    · rw [if_pos h]; exact ⟨h1, h2⟩
    · rw [if_neg h]; exact t.a2 _ (by omega)
  · rw [cutI_at]
    by_cases h : es2.length + 1 - 8 + i = es2.length
    · rw [if_pos h]; exact h3 j hj
    · rw [if_neg h]; exact t.d1 _ _ (by omega) hj
  · rw [cutI_at, cutI_at]
    rw [if_neg (show ¬ es2.length + 1 - 8 + j = es2.length by omega)]
    by_cases h : es2.length + 1 - 8 + i = es2.length
    · rw [if_pos h]; exact h4 _ (by omega)
    · rw [if_neg h]; exact t.d2 _ _ (by omega) (by omega)
theorem cut_in (h : es2.length ≤ 8) : inn (cutI es2 id) id = true := by
  refine inn_iff.2 ⟨es2.length - (es2.length + 1 - 8), ?_, ?_⟩
  · rw [cutI_len]; omega
  · rw [cutI_at, if_pos (by omega)]
theorem r25 (h1 : es.length ≤ 1000) (h2 : es2.length ≤ 1000) : vev25_0 l tk es tk2 es2 = true := by
  unfold vev25_0
  rw [show (es.length * 8).ble 140737488355328 = true from Nat.ble_eq_true_of_le (by omega), show (es2.length * 8).ble 140737488355328 = true from Nat.ble_eq_true_of_le (by omega)]
  rfl
theorem del_eq {k : Nat} (hk : k < es.length) (z : List AV) : List.take (k + (es.length - (k + 1))) (List.drop 0 (List.take k es ++ List.drop (k + 1) es ++ List.replicate (k + 1 - k) z)) = wI es k := by
  have l1 : (es.take k).length = k := by rw [List.length_take]; omega
  have l2 : (es.take k ++ es.drop (k + 1)).length = k + (es.length - (k + 1)) := by rw [List.length_append, List.length_drop, l1]
  rw [List.drop_zero, List.take_left' l2]
  rfl
/-- What End answers. -/
theorem end_no (t : Tb l es es2) (h : inn es id = false) : vev13_0 l es es2 id cut = es ∧ vev13_1 l es es2 id cut = es2 ∧ vev13_2 l es es2 id cut = true := by
  have n1 := t.n1
  have n2 := t.n2
  have e : vev26_0 .lent es id = -1 := by rw [(r26 (by omega)).1, h]; rfl
  unfold vev13_0 vev13_1 vev13_2
  rw [e, (r26 (by omega)).2, r25 (by omega) (by omega)]
  exact ⟨rfl, rfl, rfl⟩
theorem end_yes (t : Tb l es es2) (h : inn es id = true) : ∃ k, k < es.length ∧ at0 es k = id ∧ vev13_0 l es es2 id cut = wI es k ∧ vev13_1 l es es2 id cut = (bif cut then cutI es2 id else es2) ∧ vev13_2 l es es2 id cut = true := by
  have n1 := t.n1
  have n2 := t.n2
  have hf : fs (fun i => id == at0 es i) 0 es.length < es.length := hasF_fs.2 (by rw [inn_sym]; exact h)
  have hk : id = at0 es (fs (fun i => id == at0 es i) 0 es.length) := by
    have h5 := fs_hit hf
    simpa using h5
  have e : vev26_0 .lent es id = ((fs (fun i => id == at0 es i) 0 es.length : Nat) : Int) := by rw [(r26 (by omega)).1, h]; rfl
  have e26 := (r26 (tk := .lent) (es := es) (n := id) (by omega)).2
  have e9 := r9 (tk := .imm) (tk2 := .imm) (l := l) (es := es) (es2 := es2) (by omega) (by omega)
  have e0 : rev13_0 l es es2 id cut = ((fs (fun i => id == at0 es i) 0 es.length + 1 : Nat) : Int) := by
    unfold rev13_0
    rw [e]
    exact step64 _ _ hf (by omega)
  generalize fs (fun i => id == at0 es i) 0 es.length = k at hf hk e e0
  have l2 : rev13_2 l es es2 id cut = es2 ++ [[.int .i64 id]] := rfl
  have l3 : rev13_3 l es es2 id cut = ((es2.length + 1 : Nat) : Int) := by unfold rev13_3; rw [l2, app_len]
  have l5 : rev13_5 l es es2 id cut = ((es2.length + 1 - 8 : Nat) : Int) := by
    unfold rev13_5 rev13_4
    rw [l3, wrap64 _ (by omega) (by omega)]
    simp only [if_true]
    split <;> omega
  refine ⟨k, hf, hk.symm, ?_, ?_, ?_⟩
  · unfold vev13_0
    rw [e, e0, e9.1, e9.2, t.chk, decide_eq_false (show ¬ (k : Int) < 0 by omega), Int.toNat_natCast, Int.toNat_natCast, del_eq hf]
    rfl
  · unfold vev13_1
    rw [e, e9.1, e9.2, t.chk, decide_eq_false (show ¬ (k : Int) < 0 by omega), l2, l5, Int.toNat_natCast, app_len, List.take_of_length_le (by rw [List.length_drop, app_len]; omega)]
    cases cut <;> rfl
  · unfold vev13_2
    rw [e, e0, e26, e9.1, e9.2, t.chk, r25 (by omega) (by omega), l3, l5, decide_eq_false (show ¬ (k : Int) < 0 by omega), decide_eq_true (show (0 : Int) ≤ (k : Int) by omega), decide_eq_true (show (k : Int) < ((k + 1 : Nat) : Int) by omega), decide_eq_true (show ((k + 1 : Nat) : Int) ≤ (es.length : Int) by omega), decide_eq_true (show es.length * 8 ≤ 140737488355328 by omega),
      decide_eq_true (show (0 : Int) ≤ ((es2.length + 1 - 8 : Nat) : Int) by omega), decide_eq_true (show ((es2.length + 1 - 8 : Nat) : Int) ≤ ((es2.length + 1 : Nat) : Int) by omega), decide_eq_true (show ((es2.length + 1 : Nat) : Int) ≤ ((es2.length + 1 : Nat) : Int) by omega),
      decide_eq_true (show (es2.length + (rev13_1 l es es2 id cut).length) * 8 ≤ 140737488355328 by show (es2.length + 1) * 8 ≤ _; omega), decide_eq_true (show es2.length + (rev13_1 l es es2 id cut).length ≤ 9223372036854775807 by show es2.length + 1 ≤ _; omega)]
    cases cut <;> rfl
/-- End, all of it. -/
theorem end4 (t : Tb l es es2) : Tb l (vev13_0 l es es2 id cut) (vev13_1 l es es2 id cut) ∧ vev13_2 l es es2 id cut = true ∧ clsI l (vev13_0 l es es2 id cut) (vev13_1 l es es2 id cut) id = (bif clsI l es es2 id == 2 then (bif cut then 4 else 3) else clsI l es es2 id) := by
  cases h : inn es id with
  | false =>
    obtain ⟨e0, e1, e2⟩ := end_no (cut := cut) t h
    rw [e0, e1]
    refine ⟨t, e2, ?_⟩
    have hc : (clsI l es es2 id == 2) = false := by
      unfold clsI
      rw [h]
      cases od id <;> cases decide (id > l) <;> cases inn es2 id <;> rfl
    rw [hc]
    rfl
  | true =>
    obtain ⟨k, hk, hid, e0, e1, e2⟩ := end_yes (cut := cut) t h
    have ha := t.a1 k hk
    rw [hid] at ha
    have hg := t.gone hk
    rw [hid] at hg
    have hd := t.drop hk
    have h2 : inn es2 id = false := inn_no.2 fun j hj he => t.d1 j k hj hk (by rw [he, hid])
    have hc : clsI l es es2 id = 2 := by
      unfold clsI
      rw [h, ha.1, decide_eq_false (show ¬ id > l by omega)]
      rfl
    rw [e0, e1, hc]
    cases cut with
    | false =>
      refine ⟨hd, e2, ?_⟩
      unfold clsI
      rw [hg, ha.1, decide_eq_false (show ¬ id > l by omega)]
      show (bif inn es2 id then (4 : Int) else 3) = 3
      rw [h2]
      rfl
    | true =>
      refine ⟨hd.cutT ha.1 ha.2 (inn_no.1 hg) (inn_no.1 h2), e2, ?_⟩
      unfold clsI
      rw [hg, ha.1, decide_eq_false (show ¬ id > l by omega)]
      show (bif inn (cutI es2 id) id then (4 : Int) else 3) = 4
      rw [cut_in t.n2]
      rfl
theorem odd_od (h0 : 0 ≤ id) (h1 : id ≤ 255) : (id.tmod 2 == 1) = od id := by
  unfold od
  rw [Int.tmod_eq_emod_of_nonneg h0]
  refine Bool.eq_iff_iff.2 ?_
  simp only [beq_iff_eq, Bool.and_eq_true, decide_eq_true_eq]
  omega
/-- Begin. -/
theorem beg_no (t : Tb l es es2) (h : ¬ (od id = true ∧ id > l ∧ es.length < 16)) : (vev14_2 l es es2 id == 0) = false ∧ vev14_0 l es es2 id = l ∧ vev14_1 l es es2 id = es ∧ vev14_3 l es es2 id = true := by
  have n1 := t.n1
  have n2 := t.n2
  have e9 := r9 (tk := .imm) (tk2 := .imm) (l := l) (es := es) (es2 := es2) (by omega) (by omega)
  have e7 := r7 (l := l) (id := id) (es := es) (es2 := es2) (by omega) (by omega)
  unfold vev14_0 vev14_1 vev14_2 vev14_3
  rw [e9.1, e9.2, e7.1, e7.2, t.chk, r25 (by omega) (by omega)]
  by_cases hc : clsI l es es2 id = 1
  · rw [hc]
    have h1 : od id = true ∧ id > l := by
      unfold clsI at hc
      cases ho : od id with
      | false => rw [ho] at hc; cases hc
      | true =>
        rw [ho] at hc
        by_cases hl : id > l
        · exact ⟨rfl, hl⟩
        · rw [decide_eq_false hl] at hc
          revert hc
          cases inn es id <;> cases inn es2 id <;> intro hc <;> cases hc
    have hl : ¬ es.length < 16 := fun hl => h ⟨h1.1, h1.2, hl⟩
    rw [decide_eq_true (show (es.length : Int) ≥ 16 by omega)]
    exact ⟨rfl, rfl, rfl, rfl⟩
  · rw [show (clsI l es es2 id != 1) = true by simpa using hc]
    exact ⟨rfl, rfl, rfl, rfl⟩
theorem beg_yes (t : Tb l es es2) (h0 : od id = true) (h1 : id > l) (h2 : es.length < 16) : (vev14_2 l es es2 id == 0) = true ∧ vev14_0 l es es2 id = id ∧ vev14_1 l es es2 id = es ++ [[.int .i64 id]] ∧ vev14_3 l es es2 id = true ∧ Tb id (es ++ [[.int .i64 id]]) es2 ∧ clsI id (es ++ [[.int .i64 id]]) es2 id = 2 := by
  have n2 := t.n2
  have e9 := r9 (tk := .imm) (tk2 := .imm) (l := l) (es := es) (es2 := es2) (by omega) (by omega)
  have e7 := r7 (l := l) (id := id) (es := es) (es2 := es2) (by omega) (by omega)
  have hc : clsI l es es2 id = 1 := by
    unfold clsI
    rw [h0, decide_eq_true h1]
    rfl
  refine ⟨?_, ?_, ?_, ?_, ?_, ?_⟩
  · unfold vev14_2
    rw [e9.1, e7.1, t.chk, hc, decide_eq_false (show ¬ (es.length : Int) ≥ 16 by omega)]
    rfl
  · unfold vev14_0
    rw [e9.1, e7.1, t.chk, hc, decide_eq_false (show ¬ (es.length : Int) ≥ 16 by omega)]
    rfl
  · unfold vev14_1
    rw [e9.1, e7.1, t.chk, hc, decide_eq_false (show ¬ (es.length : Int) ≥ 16 by omega)]
    rfl
  · unfold vev14_3
    rw [e9.1, e9.2, e7.1, e7.2, t.chk, hc, r25 (by omega) (by omega), decide_eq_false (show ¬ (es.length : Int) ≥ 16 by omega), decide_eq_true (show (es.length + (rev14_0 l es es2 id).length) * 8 ≤ 140737488355328 by show (es.length + 1) * 8 ≤ _; omega), decide_eq_true (show es.length + (rev14_0 l es es2 id).length ≤ 9223372036854775807 by show es.length + 1 ≤ _; omega)]
    rfl
  · refine ⟨Or.inr h0, by rw [app_len]; omega, n2, fun i hi => ?_, fun i hi => ?_, fun i hi => ?_, fun i j hi hj => ?_, t.d2⟩
    · rw [app_len] at hi
      rw [app_at, app_at, if_neg (by omega)]
      by_cases hq : i + 1 = es.length
      · rw [if_pos hq]
        have := t.a1 i (by omega)
        omega
      · rw [if_neg hq]; exact t.up i (by omega)
    · rw [app_len] at hi
      rw [app_at]
      by_cases hq : i = es.length
      · rw [if_pos hq]; exact ⟨h0, Int.le_refl _⟩
      · rw [if_neg hq]
        have := t.a1 i (by omega)
        exact ⟨this.1, by omega⟩
    · have := t.a2 i hi
      exact ⟨this.1, by omega⟩
    · rw [app_len] at hj
      rw [app_at]
      by_cases hq : j = es.length
      · rw [if_pos hq]
        have := t.a2 i hi
        omega
      · rw [if_neg hq]; exact t.d1 i j hi (by omega)
  · unfold clsI
    rw [h0, decide_eq_false (show ¬ id > id by omega), inn_iff.2 ⟨es.length, by rw [app_len]; omega, by rw [app_at, if_pos rfl]⟩]
    rfl
/-- A row of acts. -/
abbrev okA (ls : List (List AV)) : Prop := ∀ x ∈ ls, okKL [.int .u8, .bool, .bool] x
theorem act_in (h : okA ls) {i : Nat} (hi : i < ls.length) : 0 ≤ intOf ((ls.getD i []).getD 0 .junk) ∧ intOf ((ls.getD i []).getD 0 .junk) ≤ 255 := by
  have hm : ls.getD i [] ∈ ls := by
    rw [List.getD_eq_getElem?_getD, List.getElem?_eq_getElem hi]
    exact List.getElem_mem hi
  have hx := h _ hm
  simp only [okKL, okK] at hx
  obtain ⟨_, _, e, ⟨a, rfl, ha⟩, _⟩ := hx
  rw [e]
  have h2 : (decide (0 ≤ a) && decide (a ≤ 255)) = true := ha
  change 0 ≤ a ∧ a ≤ 255
  simpa using h2
/-- One act. -/
theorem round4 (h : okA ls) {i : Nat} (hi : i < ls.length) (t : Tb l es es2) : go4_6 ls l (i : Int) l es es2 = true ∧ nx4_6_1 ls l (i : Int) l es es2 = nx4_6_3 ls l (i : Int) l es es2 ∧ Tb (nx4_6_3 ls l (i : Int) l es es2) (nx4_6_4 ls l (i : Int) l es es2) (nx4_6_5 ls l (i : Int) l es es2) := by
  have n1 := t.n1
  have n2 := t.n2
  have hv := act_in h hi
  have e0 : 0 ≤ rn4_6_0 ls l (i : Int) l es es2 ∧ rn4_6_0 ls l (i : Int) l es es2 ≤ 255 := by
    unfold rn4_6_0
    rw [Int.toNat_natCast, wrap64 _ (by omega) (by omega)]
    exact hv
  have hw := fun es es2 (h1 : es.length ≤ 16) (h2 : es2.length ≤ 8) l id => r7 (l := l) (id := id) (es := es) (es2 := es2) (by omega) (by omega)
  have hk := fun es es2 (h1 : es.length ≤ 16) (h2 : es2.length ≤ 8) l => r9 (tk := .imm) (tk2 := .imm) (l := l) (es := es) (es2 := es2) (by omega) (by omega)
  have e3 : rn4_6_3 ls l (i : Int) l es es2 = clsI l es es2 (rn4_6_0 ls l (i : Int) l es es2) := (hw es es2 n1 n2 _ _).1
  have lll : (l != l) = false := by simp
  cases hE : boolOf ((ls.getD i []).getD (0 + 1) AV.junk) with
  | true =>
    have f := end4 (id := rn4_6_0 ls l (i : Int) l es es2) (cut := boolOf ((ls.getD i []).getD (0 + 1 + 1) AV.junk)) t
    have e1 : rn4_6_1 ls l (i : Int) l es es2 = vev13_0 l es es2 (rn4_6_0 ls l (i : Int) l es es2) (boolOf ((ls.getD i []).getD (0 + 1 + 1) AV.junk)) := by unfold rn4_6_1; rw [Int.toNat_natCast]
    have e2 : rn4_6_2 ls l (i : Int) l es es2 = vev13_1 l es es2 (rn4_6_0 ls l (i : Int) l es es2) (boolOf ((ls.getD i []).getD (0 + 1 + 1) AV.junk)) := by unfold rn4_6_2; rw [Int.toNat_natCast]
    rw [← e1, ← e2] at f
    obtain ⟨f1, f2, f3⟩ := f
    have g7 := hw _ _ f1.n1 f1.n2 l (rn4_6_0 ls l (i : Int) l es es2)
    have g9 := hk _ _ f1.n1 f1.n2 l
    have e4 : decide (rn4_6_4 ls l (i : Int) l es es2 > 8) = false := by unfold rn4_6_4; exact decide_eq_false (by have := f1.n2; omega)
    refine ⟨?_, ?_, ?_⟩
    · unfold go4_6
      rw [dge, dlt, decide_eq_true hi, Int.toNat_natCast, hE, (hw es es2 n1 n2 _ _).2, f2, g7.2, g7.1, g9.1, g9.2, f1.chk, e4, lll, f3, e3]
      generalize clsI l es es2 (rn4_6_0 ls l (i : Int) l es es2) = c
      cases hc : (c == 2) with
      | true =>
        cases boolOf ((ls.getD i []).getD (0 + 1 + 1) AV.junk) <;> rfl
      | false =>
        show (bif c != c then false else true) = true
        simp
    · unfold nx4_6_1 nx4_6_3
      rw [Int.toNat_natCast, hE]
      rfl
    · unfold nx4_6_3 nx4_6_4 nx4_6_5
      rw [Int.toNat_natCast, hE]
      exact f1
  | false =>
    have ho := odd_od e0.1 e0.2
    have e5 : rn4_6_5 ls l (i : Int) l es es2 = vev14_0 l es es2 (rn4_6_0 ls l (i : Int) l es es2) := rfl
    have e6 : rn4_6_6 ls l (i : Int) l es es2 = vev14_1 l es es2 (rn4_6_0 ls l (i : Int) l es es2) := rfl
    have d2 : decide ((es2.length : Int) > 8) = false := decide_eq_false (by omega)
    by_cases hb : od (rn4_6_0 ls l (i : Int) l es es2) = true ∧ rn4_6_0 ls l (i : Int) l es es2 > l ∧ es.length < 16
    · obtain ⟨b1, b2, b3⟩ := hb
      obtain ⟨f0, f1, f2, f3, f4, f5⟩ := beg_yes t b1 b2 b3
      have g7 := hw _ _ f4.n1 f4.n2 (rn4_6_0 ls l (i : Int) l es es2) (rn4_6_0 ls l (i : Int) l es es2)
      have g9 := hk _ _ f4.n1 f4.n2 (rn4_6_0 ls l (i : Int) l es es2)
      have d1 : decide ((es.length : Int) < 16) = true := decide_eq_true (by omega)
      have rr : (rn4_6_0 ls l (i : Int) l es es2 != rn4_6_0 ls l (i : Int) l es es2) = false := by simp
      refine ⟨?_, ?_, ?_⟩
      · unfold go4_6
        rw [dge, dlt, decide_eq_true hi, Int.toNat_natCast, hE, (hw es es2 n1 n2 _ _).2, f3, e5, e6, f1, f2, f0, ho, b1, decide_eq_true b2, d1, g7.2, g7.1, f5, rr, g9.2, g9.1, f4.chk, d2]
        rfl
      · unfold nx4_6_1 nx4_6_3
        rw [Int.toNat_natCast, hE, ho, b1, decide_eq_true b2, d1, e5, f1]
        rfl
      · unfold nx4_6_3 nx4_6_4 nx4_6_5
        rw [Int.toNat_natCast, hE, e5, e6, f1, f2]
        exact f4
    · obtain ⟨f0, f1, f2, f3⟩ := beg_no t hb
      have g9 := hk _ _ n1 n2 l
      have hbb : (bif od (rn4_6_0 ls l (i : Int) l es es2) then bif decide (rn4_6_0 ls l (i : Int) l es es2 > l) then decide ((es.length : Int) < 16) else false else false) = false := by
        cases h1 : od (rn4_6_0 ls l (i : Int) l es es2) with
        | false => rfl
        | true =>
          by_cases h2 : rn4_6_0 ls l (i : Int) l es es2 > l
          · rw [decide_eq_true h2]
            exact decide_eq_false (fun h3 => hb ⟨h1, h2, by omega⟩)
          · rw [decide_eq_false h2]; rfl
      have hbc : (bif od (rn4_6_0 ls l (i : Int) l es es2) then bif bif true then decide (rn4_6_0 ls l (i : Int) l es es2 > l) else false then bif true then decide ((es.length : Int) < 16) else false else false else false) = false := hbb
      refine ⟨?_, ?_, ?_⟩
      · unfold go4_6
        rw [dge, dlt, decide_eq_true hi, Int.toNat_natCast, hE, (hw es es2 n1 n2 _ _).2, f3, e5, e6, f1, f2, f0, ho, hbb, hbc, g9.2, g9.1, t.chk, d2, lll]
        rfl
      · unfold nx4_6_1 nx4_6_3
        rw [Int.toNat_natCast, hE, ho, hbb, e5, f1]
        rfl
      · unfold nx4_6_3 nx4_6_4 nx4_6_5
        rw [Int.toNat_natCast, hE, e5, e6, f1, f2]
        exact t
noncomputable def e4 (ls : List (List AV)) : Nat → Int × List (List AV) × List (List AV)
  | 0 => (0, [], [])
  | i + 1 => (nx4_6_3 ls (e4 ls i).1 (i : Int) (e4 ls i).1 (e4 ls i).2.1 (e4 ls i).2.2, nx4_6_4 ls (e4 ls i).1 (i : Int) (e4 ls i).1 (e4 ls i).2.1 (e4 ls i).2.2, nx4_6_5 ls (e4 ls i).1 (i : Int) (e4 ls i).1 (e4 ls i).2.1 (e4 ls i).2.2)
theorem inv4 (h : okA ls) : ∀ i : Nat, i ≤ ls.length → Tb (e4 ls i).1 (e4 ls i).2.1 (e4 ls i).2.2
  | 0, _ => ⟨Or.inl rfl, Nat.zero_le 16, Nat.zero_le 8, fun i hi => absurd hi (Nat.not_lt_zero _), fun i hi => absurd hi (Nat.not_lt_zero _), fun i hi => absurd hi (Nat.not_lt_zero _), fun i j hi => absurd hi (Nat.not_lt_zero _), fun i j hi => absurd hi (Nat.not_lt_zero _)⟩
  | i + 1, hi => (round4 h (by omega) (inv4 h i (by omega))).2.2
theorem ends4 (h : okA ls) (hN : ls.length ≤ 80) : Ends (g4_6 ls) (n4_6 ls) ((0 : Int), (0 : Int), (0 : Int), [], []) ((e4 ls ls.length).1, (ls.length : Int), e4 ls ls.length) := by
  refine Ends.count (go := g4_6 ls) (next := n4_6 ls) ls.length (fun i => ((e4 ls i).1, (i : Int), e4 ls i)) (fun i hi => ?_) ?_
  · have hv := inv4 h i (by omega)
    obtain ⟨h1, h2, _⟩ := round4 h hi hv
    refine ⟨h1, ?_⟩
    have hw : nx4_6_2 ls (e4 ls i).1 (i : Int) (e4 ls i).1 (e4 ls i).2.1 (e4 ls i).2.2 = ((i + 1 : Nat) : Int) := step64 i _ hi (by omega)
    show (nx4_6_1 ls (e4 ls i).1 (i : Int) (e4 ls i).1 (e4 ls i).2.1 (e4 ls i).2.2, nx4_6_2 ls (e4 ls i).1 (i : Int) (e4 ls i).1 (e4 ls i).2.1 (e4 ls i).2.2, _) = _
    rw [h2, hw]
    rfl
  · show go4_6 ls _ (ls.length : Int) _ _ _ = false
    unfold go4_6
    rw [dlt, decide_eq_false (show ¬ ls.length < ls.length by omega)]
    rfl
theorem plain4 (h : okA ls) : vev4_0 ls = true ∧ vev4_1 ls = true := by
  unfold vev4_0 vev4_1
  by_cases hN : (ls.length : Int) > 80
  · rw [decide_eq_true hN]; exact ⟨rfl, rfl⟩
  rw [decide_eq_false hN]
  have hE := (ends4 h (by omega)).fin
  have e : rev4_0 ls = ((e4 ls ls.length).1, (ls.length : Int), e4 ls ls.length) := hE.2
  have hx : ∀ a b c d, xc4_6_0 ls a (ls.length : Int) b c d = false := fun a b c d => by
    unfold xc4_6_0
    rw [dlt, decide_eq_false (show ¬ ls.length < ls.length by omega)]
    rfl
  have hs : (spI g4_6 n4_6 y4_6 z4_6 d4_6 (ls, (0 : Int), (0 : Int), (0 : Int), [], [])).fst = true := by
    simp only [spI]
    rw [hE.2, hE.1]
    unfold y4_6 z4_6 xc4_6_1
    dsimp only
    rw [dlt, decide_eq_false (show ¬ ls.length < ls.length by omega)]
    simp
  rw [e, hs]
  dsimp only
  rw [hx]
  exact ⟨rfl, rfl⟩
theorem law4 (h : okA ls) : FnOK Try.prog 4 [.sl .imm [.int .u8, .bool, .bool] ls] [] (.bool true) [] := by
  obtain ⟨h0, h1⟩ := plain4 h
  have he := ev4 ls
  rw [h1, h0, cond_true] at he
  exact (fn_ok mixed plain (gk_ok k13_ok 30) Try.func4 loops4 he).2
end Go.Proofs.Gv
