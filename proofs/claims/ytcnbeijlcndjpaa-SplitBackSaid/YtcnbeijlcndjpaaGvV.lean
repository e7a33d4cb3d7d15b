/-
Regions that draw their order.
-/
import Derived.Test.YtcnbeijlcndjpaaGvU
namespace Go.Proofs.Gv
open Go.RowKit
section
variable {X : Cfg} {B : Bs} {s s' : St} {a : Act} {w : World} {G : Gh} {o : Oper} {u : List Wr} {K : Act → World → Prop} {Q : Exit → Act → World → Prop}
theorem getD_set' {α : Type} (l : List α) (i j : Nat) (a d : α) : (l.set i a).getD j d = if j = i ∧ i < l.length then a else l.getD j d := by
  simp only [List.getD_eq_getElem?_getD, List.getElem?_set]
  by_cases e : i = j
  · subst e
    by_cases h : i < l.length
    · simp [h]
    · simp [h]
  · have : ¬ j = i := fun x => e x.symm
    simp [e, this]
theorem St.len_ap (s : St) (u : Wr) : (s.ap u).T.length = s.T.length := by
  cases u <;> simp [St.ap]
theorem St.len_aps : ∀ (u : List Wr) (s : St), (s.aps u).T.length = s.T.length := by
  intro u
  induction u with
  | nil => intro s; rfl
  | cons x u ih => intro s; exact (ih (s.ap x)).trans (St.len_ap s x)
theorem lenC_ap (s : St) (x : Wr) : (s.ap x).C.length = s.C.length := by
  cases x <;> simp [St.ap]
theorem lenC_aps : ∀ (u : List Wr) (s : St), (s.aps u).C.length = s.C.length := by
  intro u
  induction u with
  | nil => intro s; rfl
  | cons x u ih => intro s; exact (ih (s.ap x)).trans (lenC_ap s x)
theorem fit_local (hT : s.T.length = s'.T.length) (hC : s.C.length = s'.C.length) (u : List Wr) : s.fit u = s'.fit u := by
  unfold St.fit
  have : s.fits = s'.fits := by
    funext x
    cases x with
    | put i v => simp only [St.fits, hT]
    | blk b k => simp only [St.fits, hC]
  rw [this]
/-- Two states are alike at places. -/
structure Ag (A : List Lo) (s s' : St) : Prop where
  t : s.T.length = s'.T.length
  c : s.C.length = s'.C.length
  lo : ∀ l ∈ A, s.lo l = s'.lo l
theorem Ag.ap {A : List Lo} (h : Ag A s s') (x : Wr) : Ag A (s.ap x) (s'.ap x) := by
  cases x with
  | put i v =>
    refine ⟨by simp [St.ap, h.t], h.c, fun l hm => ?_⟩
    have h1 := h.lo l hm
    cases l with
    | t j =>
      have h2 := lo_t h1
      simp only [St.t] at h2
      simp only [St.lo, St.t, St.ap, getD_set', h.t, Sum.inl.injEq]
      split
      · rfl
      · exact h2
    | r b => exact h1
  | blk b k =>
    refine ⟨h.t, by simp [St.ap, h.c], fun l hm => ?_⟩
    have h1 := h.lo l hm
    cases l with
    | t j => exact h1
    | r b' =>
      have h2 := lo_c h1
      simp only [St.c] at h2
      simp only [St.lo, St.c, St.ap, getD_set', h.c, Sum.inr.injEq]
      split
      · rfl
      · exact h2
theorem Ag.aps {A : List Lo} : ∀ (u : List Wr) (s s' : St), Ag A s s' → Ag A (s.aps u) (s'.aps u) := by
  intro u
  induction u with
  | nil => intro s s' h; exact h
  | cons x u ih => intro s s' h; exact ih _ _ (h.ap x)
theorem lo_ap (s : St) (x : Wr) (l : Lo) (h : wLo x ≠ l) : (s.ap x).lo l = s.lo l := by
  cases x with
  | put i v =>
    cases l with
    | t j =>
      simp only [St.lo, St.t, St.ap, getD_set', Sum.inl.injEq]
      rw [if_neg]
      rintro ⟨rfl, _⟩
      exact h rfl
    | r b => rfl
  | blk b k =>
    cases l with
    | t j => rfl
    | r b' =>
      simp only [St.lo, St.c, St.ap, getD_set', Sum.inr.injEq]
      rw [if_neg]
      rintro ⟨rfl, _⟩
      exact h rfl
theorem lo_aps : ∀ (u : List Wr) (s : St) (l : Lo), l ∉ u.map wLo → (s.aps u).lo l = s.lo l := by
  intro u
  induction u with
  | nil => intro s l _; rfl
  | cons x u ih =>
    intro s l h
    simp only [List.map_cons, List.mem_cons, not_or] at h
    exact (ih (s.ap x) l h.2).trans (lo_ap s x l fun e => h.1 e.symm)
/-- What a place names. -/
def loRefs (s : St) : Lo → List Nat
  | .t i => (s.t i).refs
  | .r b => (s.c b).refs
theorem loRefs_eq {l : Lo} (h : s.lo l = s'.lo l) : loRefs s l = loRefs s' l := by
  cases l with
  | t i => simp only [loRefs, lo_t h]
  | r b => simp only [loRefs, lo_c h]
/-- What a written place names was written there. -/
theorem loRefs_aps : ∀ (u : List Wr) (s : St) (l : Lo) (q : Nat), s.fit u = true → q ∈ loRefs (s.aps u) l → (l ∉ u.map wLo ∧ q ∈ loRefs s l) ∨ (l, q) ∈ u.flatMap fsW := by
  intro u
  induction u with
  | nil => intro s l q _ h; exact .inl ⟨by simp, h⟩
  | cons x u ih =>
    intro s l q hf h
    simp only [St.fit, List.all_cons, Bool.and_eq_true] at hf
    have hf2 : (s.ap x).fit u = true := by
      rw [← fit_local (St.len_ap s x).symm (lenC_ap s x).symm]
      exact hf.2
    rcases ih (s.ap x) l q hf2 h with ⟨h1, h2⟩ | h1
    · by_cases hx : wLo x = l
      · right
        simp only [List.flatMap_cons, List.mem_append]
        left
        subst hx
        cases x with
        | put i v =>
          have hi : i < s.T.length := by simpa [St.fits] using hf.1
          simp only [loRefs, wLo, St.t, St.ap, getD_set'] at h2
          simp only [fsW, wLo, List.mem_map]
          exact ⟨q, by simpa [hi] using h2, rfl⟩
        | blk b k =>
          have hi : b < s.C.length := by simpa [St.fits] using hf.1
          simp only [loRefs, wLo, St.c, St.ap, getD_set'] at h2
          simp only [fsW, wLo, List.mem_map]
          exact ⟨q, by simpa [hi] using h2, rfl⟩
      · left
        refine ⟨by simp [h1, Ne.symm hx], ?_⟩
        rwa [loRefs_eq (lo_ap s x l hx)] at h2
    · right
      simp only [List.flatMap_cons, List.mem_append]
      exact .inr h1
theorem noRefs_lo {d : Nat} {ex exb : List Nat} : noRefs d ex exb s = true ↔ (∀ i, i ∉ ex → d ∉ loRefs s (.t i)) ∧ ∀ b, b ∉ exb → d ∉ loRefs s (.r b) := by
  rw [noRefs_iff]
  constructor
  · rintro ⟨h1, h2⟩
    refine ⟨fun i hi => ?_, fun b hb => ?_⟩
    · simp only [loRefs, St.t]
      by_cases hl : i < s.T.length
      · have := h1 i s.T[i] (List.getElem?_eq_getElem hl) hi
        simpa [List.getD, hl] using this
      · simp [List.getD, List.getElem?_eq_none (by omega : s.T.length ≤ i), AV.refs]
    · simp only [loRefs, St.c]
      by_cases hl : b < s.C.length
      · have := h2 b s.C[b] (List.getElem?_eq_getElem hl) hb
        simpa [List.getD, hl] using this
      · simp [List.getD, List.getElem?_eq_none (by omega : s.C.length ≤ b), Blk.refs]
  · rintro ⟨h1, h2⟩
    refine ⟨fun i x hx hi => ?_, fun b k hk hb => ?_⟩
    · have := h1 i hi
      simpa [loRefs, St.t, List.getD, hx] using this
    · have := h2 b hb
      simpa [loRefs, St.c, List.getD, hk] using this
theorem GW.local {ops : Array Oper} {b : Bool} (h : ∀ l ∈ rdG ops o, s.lo l = s'.lo l) (hg : GW ops o s b) : GW ops o s' b := by
  unfold GW at hg ⊢
  split at hg
  · exact hg
  · rename_i j want hn
    obtain ⟨q, hq, hh⟩ := hg
    have : s.t q = s'.t q := lo_t (h _ (by simp only [rdG, hn, hq]; simp))
    rw [this] at hh
    exact ⟨q, hq, hh⟩
/-- A step is taken likewise from a state that is alike where the step looks and writes. -/
theorem StepR.local {ops : Array Oper} {rd : List Lo} {t : St} (hs : StepR X ops o s u rd t) (hT : s.T.length = s'.T.length) (hC : s.C.length = s'.C.length) (hag : ∀ l, l ∈ rd ∨ l ∈ u.map wLo → s.lo l = s'.lo l)
    (hn : ∀ q ∈ nfA X o s, noRefs q (exA o) (nfA X o s) s = true ∧ noRefs q (exA o) (nfA X o s) s' = true) :
    ∃ rd', StepR X ops o s' u rd' (s'.aps u) ∧ (∀ l ∈ u.map wLo, (s'.aps u).lo l = t.lo l) := by
  have hA : Ag (rd ++ u.map wLo) s s' := ⟨hT, hC, fun l hl => hag l (List.mem_append.1 hl)⟩
  have h2 := Ag.aps u s s' hA
  have h1 := fit_local hT hC u
  cases hs with
  | run _ hg hc hf =>
    have hloc : comp X o s = comp X o s' := comp_local hT hC (fun l hl => hag l (.inl (List.mem_append.2 (.inr hl)))) hn
    exact ⟨_, .run u (GW.local (fun l hl => hag l (.inl (List.mem_append.2 (.inl hl)))) hg) (by rw [← hloc]; exact hc) (by rw [← h1]; exact hf), fun l hl => (h2.lo l (List.mem_append.2 (.inr hl))).symm⟩
  | skip hg hf =>
    exact ⟨_, .skip (GW.local (fun l hl => hag l (.inl hl)) hg) (by rw [← h1]; exact hf), fun l hl => (h2.lo l (List.mem_append.2 (.inr hl))).symm⟩
theorem StepR.eq {ops : Array Oper} {rd : List Lo} (h : StepR X ops o s u rd s') : s' = s.aps u := by cases h <;> rfl
theorem StepR.fit {ops : Array Oper} {rd : List Lo} (h : StepR X ops o s u rd s') : s.fit u = true := by
  cases h with
  | run _ _ _ hf => exact hf
  | skip _ hf => exact hf
theorem meets_spec {x y : List Lo} {l : Lo} (hx : l ∈ x) (hy : l ∈ y) : meets x y = true :=
  List.any_eq_true.2 ⟨l, hx, List.any_eq_true.2 ⟨l, hy, Lo.eq_iff.2 rfl⟩⟩
theorem evDr_spec {R : Type} {ops : Array Oper} {r : R} {k : List Rec → St → Option R} : ∀ (os : List Oper) (s : St) (acc : List Rec), evDr X none ops os s acc k = some r →
    ∃ (recs : List Rec) (σ : Nat → St), recs.length = os.length ∧ σ 0 = s ∧ k (acc ++ recs) (σ os.length) = some r ∧
      ∀ i o, os[i]? = some o → ∃ u rd, StepR X ops o (σ i) u rd (σ (i + 1)) ∧ recs[i]? = some (recA X o (σ i) u rd) := by
  intro os
  induction os with
  | nil => intro s acc h; exact ⟨[], fun _ => s, rfl, rfl, by simpa [evDr] using h, by simp⟩
  | cons o os ih =>
    intro s acc h
    obtain ⟨u, rd, s', hs, hk⟩ := evOp_spec h
    obtain ⟨recs, σ, h1, h2, h3, h4⟩ := ih s' _ hk
    refine ⟨recA X o s u rd :: recs, fun | 0 => s | i + 1 => σ i, by simp [h1], rfl, by simpa using h3, fun i o' hi => ?_⟩
    cases i with
    | zero =>
      simp at hi
      subst hi
      exact ⟨u, rd, by simpa [h2] using hs, by simp⟩
    | succ i =>
      obtain ⟨u', rd', h5, h6⟩ := h4 i o' (by simpa using hi)
      exact ⟨u', rd', h5, by simpa using h6⟩
theorem evDr_uni (ops : Array Oper) : ∀ (os : List Oper) (s : St) (acc : List Rec), (∃ (recs : List Rec) (σ : Nat → St), recs.length = os.length ∧ σ 0 = s ∧ (∀ (R : Type) (no : R) (k : List Rec → St → R), evDr X no ops os s acc k = k (acc ++ recs) (σ os.length)) ∧
      ∀ i o, os[i]? = some o → ∃ u rd, StepR X ops o (σ i) u rd (σ (i + 1)) ∧ recs[i]? = some (recA X o (σ i) u rd)) ∨ ∀ (R : Type) (no : R) (k : List Rec → St → R), evDr X no ops os s acc k = no := by
  intro os
  induction os with
  | nil => intro s acc; exact .inl ⟨[], fun _ => s, rfl, rfl, fun _ _ _ => by simp [evDr], by simp⟩
  | cons o os ih =>
    intro s acc
    rcases evOp_uni (X := X) ops o s with ⟨u, rd, s', hs, hk⟩ | hk
    · rcases ih s' (acc ++ [recA X o s u rd]) with ⟨recs, σ, h1, h2, h3, h4⟩ | h3
      · refine .inl ⟨recA X o s u rd :: recs, fun | 0 => s | i + 1 => σ i, by simp [h1], rfl, fun R no k => ?_, fun i o' hi => ?_⟩
        · simp only [evDr]
          rw [hk, h3]
          simp
        · cases i with
          | zero =>
            simp at hi
            subst hi
            exact ⟨u, rd, by simpa [h2] using hs, by simp⟩
          | succ i =>
            obtain ⟨u', rd', h5, h6⟩ := h4 i o' (by simpa using hi)
            exact ⟨u', rd', h5, by simpa using h6⟩
      · exact .inr fun R no k => by simp only [evDr]; rw [hk, h3]
    · exact .inr fun R no k => by simp only [evDr]; rw [hk]
theorem ancs_spec : ∀ (os : List Oper) (acc : List (List Nat)), ∃ rest, ancs os acc = acc ++ rest ∧ ∀ k o, os[k]? = some o → ∀ i, i ∈ (ancs os acc).getD (acc.length + k) [] → ∃ e ∈ edgesOf o, i = e ∨ i ∈ (ancs os acc).getD e [] := by
  intro os
  induction os with
  | nil => intro acc; exact ⟨[], by simp [ancs], by simp⟩
  | cons o os ih =>
    intro acc
    obtain ⟨rest, h1, h2⟩ := ih (acc ++ [(edgesOf o).flatMap fun e => e :: acc.getD e []])
    refine ⟨[(edgesOf o).flatMap fun e => e :: acc.getD e []] ++ rest, by rw [ancs, h1, List.append_assoc], fun k o' hk i hi => ?_⟩
    cases k with
    | zero =>
      simp at hk
      subst hk
      have e0 : (ancs (o :: os) acc).getD (acc.length + 0) [] = (edgesOf o).flatMap fun e => e :: acc.getD e [] := by
        rw [ancs, h1]; simp
      rw [e0] at hi
      obtain ⟨e, he, hm⟩ := List.mem_flatMap.1 hi
      refine ⟨e, he, ?_⟩
      rcases List.mem_cons.1 hm with hm | hm
      · exact .inl hm
      · have hlt : e < acc.length := by
          apply Classical.byContradiction
          intro hlt
          simp [List.getD, List.getElem?_eq_none (Nat.not_lt.1 hlt)] at hm
        refine .inr ?_
        rw [ancs, h1, List.append_assoc]
        simpa [List.getD, List.getElem?_append_left hlt] using hm
    | succ k =>
      have := h2 k o' (by simpa using hk) i (by rw [ancs] at hi; simpa [Nat.add_assoc, Nat.add_comm 1 k] using hi)
      simpa only [ancs] using this
theorem forceN_eq {R : Type} (n : Nat) (k : Nat → R) : forceN n k = k n := by cases n <;> rfl
theorem hasB_eq (m i : Nat) : hasB m i = m.testBit i := by
  unfold hasB Nat.testBit
  cases h : Nat.beq (Nat.land 1 (Nat.shiftRight m i)) 0 with
  | true =>
    have h1 : 1 &&& (m >>> i) = 0 := Nat.eq_of_beq_eq_true h
    rw [h1]; rfl
  | false =>
    have h1 : ¬ 1 &&& (m >>> i) = 0 := fun e => by
      have : Nat.beq (Nat.land 1 (Nat.shiftRight m i)) 0 = true := by
        have e' : Nat.land 1 (Nat.shiftRight m i) = 0 := e
        rw [e']; rfl
      rw [h] at this; cases this
    cases h2 : (1 &&& m >>> i != 0) with
    | true => rfl
    | false => exact absurd (by simpa only [bne, Bool.not_eq_false', beq_iff_eq] using h2) h1
theorem loB_inj {a b : Lo} (h : loB a = loB b) : a = b := by
  cases a <;> cases b <;> simp only [loB] at h <;> first | (congr 1; omega) | omega
theorem mkL_bit {l : Lo} : ∀ {ls : List Lo}, l ∈ ls → (mkL ls).testBit (loB l) = true := by
  intro ls
  induction ls with
  | nil => intro h; cases h
  | cons x ls ih =>
    intro h
    have e : mkL (x :: ls) = (1 <<< loB x) ||| mkL ls := rfl
    rw [e, Nat.testBit_or]
    rcases List.mem_cons.1 h with h | h
    · subst h; simp [Nat.testBit_shiftLeft]
    · rw [ih h]; simp
theorem meets_inv {x y : List Lo} (h : meets x y = true) : ∃ l, l ∈ x ∧ l ∈ y := by
  unfold meets at h
  obtain ⟨l, h1, h2⟩ := List.any_eq_true.1 h
  obtain ⟨l', h3, h4⟩ := List.any_eq_true.1 h2
  have : l = l' := by
    cases l <;> cases l' <;> simp only [Lo.eq] at h4 <;> first | (rw [Nat.eq_of_beq_eq_true h4]) | cases h4
  subst this
  exact ⟨l, h1, h3⟩
theorem land_ne {a b i : Nat} (h1 : a.testBit i = true) (h2 : b.testBit i = true) : (a &&& b).testBit i = true := by rw [Nat.testBit_and, h1, h2]; rfl
theorem clashM {x y : Rec} (h : conf x y = true) : Nat.beq (Nat.lor (Nat.land (mkL x.u) (Nat.lor (mkL y.rd) (mkL y.u))) (Nat.land (mkL x.rd) (mkL y.u))) 0 = false := by
  cases hb : Nat.beq (Nat.lor (Nat.land (mkL x.u) (Nat.lor (mkL y.rd) (mkL y.u))) (Nat.land (mkL x.rd) (mkL y.u))) 0 with
  | false => rfl
  | true =>
    exfalso
    have e : ((mkL x.u &&& (mkL y.rd ||| mkL y.u)) ||| (mkL x.rd &&& mkL y.u)) = 0 := Nat.eq_of_beq_eq_true hb
    have key : ∀ i, ((mkL x.u &&& (mkL y.rd ||| mkL y.u)) ||| (mkL x.rd &&& mkL y.u)).testBit i = false := by intro i; rw [e]; simp
    unfold conf at h
    simp only [Bool.or_eq_true] at h
    rcases h with h | h | h
    · obtain ⟨l, h1, h2⟩ := meets_inv h
      have := key (loB l)
      rw [Nat.testBit_or, Nat.testBit_and, Nat.testBit_or, mkL_bit h1, mkL_bit h2] at this
      simp at this
    · obtain ⟨l, h1, h2⟩ := meets_inv h
      have := key (loB l)
      rw [Nat.testBit_or, Nat.testBit_and, Nat.testBit_or, mkL_bit h1, mkL_bit h2] at this
      simp at this
    · obtain ⟨l, h1, h2⟩ := meets_inv h
      have := key (loB l)
      rw [Nat.testBit_or, Nat.testBit_and, Nat.testBit_and, mkL_bit h1, mkL_bit h2] at this
      simp at this
theorem prJ_spec {uj rj aj : Nat} : ∀ {l : List (Nat × Nat × Nat)}, prJ uj rj aj l = true → ∀ p ∈ l, Nat.beq (Nat.lor (Nat.land p.2.1 (Nat.lor rj uj)) (Nat.land p.2.2 uj)) 0 = false → aj.testBit p.1 = true := by
  intro l
  induction l with
  | nil => intro _ p hp; cases hp
  | cons q l ih =>
    intro h p hp hc
    obtain ⟨i, ui, ri⟩ := q
    simp only [prJ, Bool.and_eq_true, Bool.or_eq_true] at h
    rcases List.mem_cons.1 hp with hp | hp
    · subst hp
      rcases h.1 with h1 | h1
      · rw [← hasB_eq]; exact h1
      · rw [h1] at hc; cases hc
    · exact ih h.2 p hp hc
theorem pairsM_spec : ∀ {l : List Rec} {k : Nat} {an : List Nat} {pre : List (Nat × Nat × Nat)}, pairsM l k an pre = true → ∀ j x, l[j]? = some x →
    (∀ p ∈ pre, Nat.beq (Nat.lor (Nat.land p.2.1 (Nat.lor (mkL x.rd) (mkL x.u))) (Nat.land p.2.2 (mkL x.u))) 0 = false → (an.getD j 0).testBit p.1 = true) ∧
    ∀ i y, i < j → l[i]? = some y → conf y x = true → (an.getD j 0).testBit (k + i) = true := by
  intro l
  induction l with
  | nil => intro k an pre _ j x hj; simp at hj
  | cons z l ih =>
    intro k an pre h j x hj
    cases an with
    | nil => simp [pairsM] at h
    | cons a an =>
      simp only [pairsM, forceN_eq, Bool.and_eq_true] at h
      cases j with
      | zero =>
        simp at hj
        subst hj
        exact ⟨fun p hp hc => by simpa using prJ_spec h.1 p hp hc, fun i y hi => absurd hi (Nat.not_lt_zero _)⟩
      | succ j =>
        obtain ⟨h1, h2⟩ := ih h.2 j x (by simpa using hj)
        refine ⟨fun p hp hc => by simpa using h1 p (List.mem_cons_of_mem _ hp) hc, fun i y hi hy hc => ?_⟩
        cases i with
        | zero =>
          simp at hy
          subst hy
          have := h1 (k, mkL z.u, mkL z.rd) List.mem_cons_self (clashM hc)
          simpa using this
        | succ i =>
          have := h2 i y (by omega) (by simpa using hy) hc
          rw [show k + (i + 1) = k + 1 + i by omega]
          simpa using this
theorem ancO_spec {acc : List Nat} {acc0 : List (List Nat)} (h : ∀ j i, (acc.getD j 0).testBit i = true → i ∈ acc0.getD j []) : ∀ (es : List Nat) i, (ancO acc es).testBit i = true → i ∈ es.flatMap fun e => e :: acc0.getD e [] := by
  intro es
  induction es with
  | nil => intro i hi; simp [ancO] at hi
  | cons e es ih =>
    intro i hi
    have e0 : ancO acc (e :: es) = (1 <<< e) ||| (acc.getD e 0 ||| ancO acc es) := rfl
    rw [e0, Nat.testBit_or, Nat.testBit_or] at hi
    simp only [Bool.or_eq_true] at hi
    rw [List.flatMap_cons]
    rcases hi with hi | hi | hi
    · have : i = e := by
        rw [Nat.testBit_shiftLeft] at hi
        simp only [Bool.and_eq_true, decide_eq_true_eq] at hi
        obtain ⟨hi1, hi2⟩ := hi
        have hz : i - e = 0 := by
          apply Classical.byContradiction
          intro hn
          obtain ⟨n, hn⟩ := Nat.exists_eq_succ_of_ne_zero hn
          rw [hn] at hi2
          simp [Nat.testBit_succ] at hi2
        omega
      subst this
      exact List.mem_append_left _ List.mem_cons_self
    · exact List.mem_append_left _ (List.mem_cons_of_mem _ (h e i hi))
    · exact List.mem_append_right _ (ih i hi)
theorem ancM_spec : ∀ (os : List Oper) (acc : List Nat) (acc0 : List (List Nat)), acc.length = acc0.length → (∀ j i, (acc.getD j 0).testBit i = true → i ∈ acc0.getD j []) → ∀ j i, ((ancM os acc).getD j 0).testBit i = true → i ∈ (ancs os acc0).getD j [] := by
  intro os
  induction os with
  | nil => intro acc acc0 _ h j i hi; exact h j i (by simpa [ancM] using hi)
  | cons o os ih =>
    intro acc acc0 hl h j i hi
    simp only [ancM, forceN_eq] at hi
    rw [ancs]
    refine ih _ _ (by simp [hl]) (fun j i hi => ?_) j i hi
    rcases Nat.lt_trichotomy j acc.length with hj | hj | hj
    · have := h j i (by simpa [List.getD, List.getElem?_append_left hj] using hi)
      simpa [List.getD, List.getElem?_append_left (show j < acc0.length by omega)] using this
    · subst hj
      have := ancO_spec h (edgesOf o) i (by simpa [List.getD] using hi)
      rw [hl]
      simpa [List.getD] using this
    · rw [List.getD, List.getElem?_eq_none (by simp; omega)] at hi
      simp at hi
theorem orderOK_old {os : List Oper} {recs : List Rec} {s0 : St} (h : orderOK os recs s0 = true) : orderOK0 os recs s0 = true := by
  unfold orderOK ordM at h
  simp only [Bool.and_eq_true] at h
  obtain ⟨h1, h2, h3⟩ := h
  have ha : ∀ j i, hasB ((ancM os []).getD j 0) i = true → inL i ((ancs os []).getD j []) = true := fun j i hi => inL_iff.2 (ancM_spec os [] [] rfl (fun j i hi => by simp at hi) j i (by rw [← hasB_eq]; exact hi))
  unfold orderOK0
  rw [h1, Bool.true_and, Bool.and_eq_true]
  constructor
  · rw [List.all_eq_true]
    intro j hj
    rw [List.all_eq_true]
    intro i hi
    rw [List.mem_range] at hj hi
    cases hc : conf (recs.getD i recD) (recs.getD j recD) with
    | false => rfl
    | true =>
      have hj' : recs[j]? = some (recs.getD j recD) := by simp [List.getD, List.getElem?_eq_getElem hj]
      have hi' : recs[i]? = some (recs.getD i recD) := by simp [List.getD, List.getElem?_eq_getElem (Nat.lt_trans hi hj)]
      have := (pairsM_spec h2 j _ hj').2 i _ hi hi' hc
      rw [ha j i (by rw [hasB_eq]; simpa using this)]
      rfl
  · unfold freshM at h3
    unfold freshOK
    rw [List.all_eq_true] at h3 ⊢
    intro i hi
    have h4 := h3 i hi
    rw [List.all_eq_true] at h4 ⊢
    intro d hd
    have h5 := h4 d hd
    rw [Bool.and_eq_true] at h5 ⊢
    refine ⟨h5.1, ?_⟩
    have h6 := h5.2
    rw [List.all_eq_true] at h6 ⊢
    intro j hj
    have h7 := h6 j hj
    simp only [Bool.or_eq_true] at h7 ⊢
    rcases h7 with h7 | h7 | h7
    · exact .inl h7
    · exact .inr (.inl h7)
    · exact .inr (.inr (ha j i h7))
/-- What a drawn order needs. -/
structure DrOK (X : Cfg) (ops : Array Oper) (σ : Nat → St) (U RD : Nat → List Lo) (anc : Nat → Nat → Prop) : Prop where
  step : ∀ (i : Nat) (o : Oper), ops[i]? = some o → ∃ (u : List Wr) (rd : List Lo), StepR X ops o (σ i) u rd (σ (i + 1)) ∧ U i = u.map wLo ∧ RD i = rd
  edge : ∀ (j : Nat) (o : Oper), ops[j]? = some o → ∀ e ∈ edgesOf o, e < j
  trans : ∀ (j : Nat) (o : Oper), ops[j]? = some o → ∀ i, anc i j → ∃ e ∈ edgesOf o, i = e ∨ anc i e
  clash : ∀ (i j : Nat) (l : Lo), i < j → j < ops.size → (l ∈ U i ∧ (l ∈ RD j ∨ l ∈ U j)) ∨ (l ∈ RD i ∧ l ∈ U j) → anc i j
  nf : ∀ (i : Nat) (o : Oper) (q : Nat), ops[i]? = some o → q ∈ nfA X o (σ i) → noRefs q (exA o) (nfA X o (σ i)) (σ 0) = true ∧ ∀ (j : Nat) (l : Lo), j < ops.size → l ∈ U j → q ∈ loRefs (σ (j + 1)) l → j ≠ i → anc i j
theorem DrOK.of {ops : Array Oper} {recs : List Rec} {σ : Nat → St} (hlen : recs.length = ops.toList.length) (hst : ∀ i o, ops.toList[i]? = some o → ∃ u rd, StepR X ops o (σ i) u rd (σ (i + 1)) ∧ recs[i]? = some (recA X o (σ i) u rd)) (hok : orderOK ops.toList recs (σ 0) = true) :
    ∃ U RD, DrOK X ops σ U RD fun i j => i ∈ (ancs ops.toList []).getD j [] := by
  refine ⟨fun i => (recs.getD i recD).u, fun i => (recs.getD i recD).rd, ?_⟩
  have hst' : ∀ (i : Nat) (o : Oper), ops[i]? = some o → ∃ u rd, StepR X ops o (σ i) u rd (σ (i + 1)) ∧ recs.getD i recD = recA X o (σ i) u rd := by
    intro i o hi
    obtain ⟨u, rd, h1, h2⟩ := hst i o (by simpa using hi)
    exact ⟨u, rd, h1, by simp [List.getD, h2]⟩
  replace hok := orderOK_old hok
  unfold orderOK0 at hok
  simp only [Bool.and_eq_true, List.all_eq_true, List.mem_range, Bool.or_eq_true, Bool.not_eq_true'] at hok
  obtain ⟨h1, h2, h3⟩ := hok
  refine ⟨fun i o hi => ?_, fun j o hj e he => ?_, fun j o hj i hi => ?_, fun i j l hij hj hc => ?_, fun i o q hi hq => ?_⟩
  · obtain ⟨u, rd, h4, h5⟩ := hst' i o hi
    exact ⟨u, rd, h4, by rw [h5]; rfl, by rw [h5]; rfl⟩
  · have hjl : j < ops.size := (Array.getElem?_eq_some_iff.1 hj).1
    have hd : ops.toList.getD j default = o := by simp [List.getD, hj]
    have := h1 j (by simpa using hjl) e (by rw [hd]; exact he)
    simpa using this
  · obtain ⟨rest, _, h5⟩ := ancs_spec ops.toList []
    have := h5 j o (by simpa using hj) i (by simpa using hi)
    exact this
  · rcases h2 j (by rw [hlen]; simpa using hj) i hij with h | h
    · exfalso
      have : Gv.conf (recs.getD i recD) (recs.getD j recD) = true := by
        unfold Gv.conf
        rcases hc with ⟨e1, e2 | e2⟩ | ⟨e1, e2⟩
        · rw [meets_spec e1 e2]; rfl
        · rw [meets_spec e1 e2]; simp
        · rw [meets_spec e1 e2]; simp
      rw [h] at this
      cases this
    · exact inL_iff.1 h
  · have hil : i < ops.size := (Array.getElem?_eq_some_iff.1 hi).1
    obtain ⟨u, rd, _, h5⟩ := hst' i o hi
    unfold freshOK at h3
    simp only [List.all_eq_true, List.mem_range, Bool.and_eq_true, Bool.or_eq_true, Bool.not_eq_true'] at h3
    have h6 := h3 i (by rw [hlen]; simpa using hil) q (by rw [h5]; exact hq)
    rw [h5] at h6
    refine ⟨h6.1, fun j l hj hl hg hne => ?_⟩
    have hjo : ops[j]? = some ops[j] := Array.getElem?_eq_getElem hj
    obtain ⟨u', rd', h7, h8⟩ := hst' j _ hjo
    rcases h6.2 j (by rw [hlen]; simpa using hj) with h | h | h
    · exact absurd (Nat.eq_of_beq_eq_true h).symm hne
    · exfalso
      replace hl : l ∈ (recs.getD j recD).u := hl
      rw [h8] at h hl
      rw [h7.eq] at hg
      rcases loRefs_aps u' (σ j) l q h7.fit hg with ⟨h9, _⟩ | h9
      · exact h9 hl
      · have := h (l, q) h9
        have e : Nat.beq q q = true := Nat.beq_refl q
        simp only at this
        rw [e] at this
        cases this
    · exact inL_iff.1 h
end
end Go.Proofs.Gv
