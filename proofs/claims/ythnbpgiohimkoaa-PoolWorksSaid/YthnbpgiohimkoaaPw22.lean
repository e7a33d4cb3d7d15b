import Derived.Test.YthnbpgiohimkoaaPw21
set_option linter.unusedVariables false
namespace Go.Proofs.Gv
open Go.RowKit
section
variable {X : Cfg} {B : Bs} {s s' : St} {a : Act} {w : World} {G : Gh} {o : Oper} {u : List Wr} {K : Act → World → Prop} {Q : Exit → Act → World → Prop}
theorem getD_set' {α : Type} (l : List α) (i j : Nat) (a d : α) : (l.set i a).getD j d = if j = i ∧ i < l.length then a else l.getD j d := by
 simp only [List.getD_eq_getElem?_getD, List.getElem?_set]
 by_cases e : i = j
 ·subst e
  by_cases h : i < l.length
  ·simp [h]
  ·simp [h]
 ·have : ¬ j = i := fun x => e x.symm
  simp [e, this]
theorem St.ap_cel (s : St) (b off : Nat) (xs : List AV) : s.ap (.cel b off xs) = s ∨ ∃ cs, s.c b = .var cs ∧ off + xs.length ≤ cs.length ∧ s.ap (.cel b off xs) = s.ap (.blk b (.var (over cs off xs))) := by
 simp only [St.ap]
 cases hk : s.c b with
 | var cs =>
   simp only
   cases hb : Nat.ble (off + xs.length) cs.length with
   | true => exact .inr ⟨cs, rfl, Nat.le_of_ble_eq_true hb, rfl⟩
   | false => exact .inl rfl
 | _ => exact .inl rfl
theorem St.len_ap (s : St) (u : Wr) : (s.ap u).T.length = s.T.length := by
 cases u with
 | cel b off xs =>
   rcases s.ap_cel b off xs with h | ⟨cs, _, _, h⟩ <;> rw [h]
   simp [St.ap]
 | _ => simp [St.ap]
theorem St.len_aps : ∀ (u : List Wr) (s : St), (s.aps u).T.length = s.T.length := by
 intro u
 induction u with
 | nil => intro s; rfl
 | cons x u ih => intro s; exact (ih (s.ap x)).trans (St.len_ap s x)
theorem lenC_ap (s : St) (x : Wr) : (s.ap x).C.length = s.C.length := by
 cases x with
 | cel b off xs =>
   rcases s.ap_cel b off xs with h | ⟨cs, _, _, h⟩ <;> rw [h]
   simp [St.ap]
 | _ => simp [St.ap]
theorem lenC_aps : ∀ (u : List Wr) (s : St), (s.aps u).C.length = s.C.length := by
 intro u
 induction u with
 | nil => intro s; rfl
 | cons x u ih => intro s; exact (ih (s.ap x)).trans (lenC_ap s x)
theorem fits_local (hT : s.T.length = s'.T.length) (hC : s.C.length = s'.C.length) : s.fits = s'.fits := by
 funext x
 cases x with
 | put i v => simp only [St.fits, hT]
 | blk b k => simp only [St.fits, hC]
 | cel b off xs => rfl
theorem fit_cases (h : s.fit u = true) : (∃ b off xs, u = [.cel b off xs] ∧ celOK s b off xs = true) ∨ u.all s.fits = true := by
 unfold St.fit at h
 split at h
 ·exact .inl ⟨_, _, _, rfl, h⟩
 ·exact .inr h
theorem celOK_inv {b off : Nat} {xs : List AV} (h : celOK s b off xs = true) : b < s.C.length ∧ 0 < xs.length ∧ ∃ cs, s.c b = .var cs ∧ off + xs.length ≤ cs.length := by
 unfold celOK at h
 simp only [Bool.and_eq_true, Nat.blt_eq] at h
 obtain ⟨h1, h2, h3⟩ := h
 refine ⟨h1, h2, ?_⟩
 split at h3
 ·rename_i cs hk
  exact ⟨cs, hk, Nat.le_of_ble_eq_true h3⟩
 ·cases h3
def Lo.cov : Lo → Lo → Prop
 | .t i, .t j => i = j
 | .r b, .c b' _ => b = b'
 | .c b j, .c b' j' => b = b' ∧ j = j'
 | _, _ => False
def Lo.atom : Lo → Prop
 | .r _ => False
 | _ => True
def Cv (A : List Lo) (l : Lo) : Prop := ∃ x ∈ A, x.cov l
theorem Cv.append {A A' : List Lo} {l : Lo} : Cv (A ++ A') l ↔ Cv A l ∨ Cv A' l := by
 constructor
 ·rintro ⟨x, hx, hc⟩
  rcases List.mem_append.1 hx with h | h
  ·exact .inl ⟨x, h, hc⟩
  ·exact .inr ⟨x, h, hc⟩
 ·rintro (⟨x, hx, hc⟩ | ⟨x, hx, hc⟩)
  ·exact ⟨x, List.mem_append_left _ hx, hc⟩
  ·exact ⟨x, List.mem_append_right _ hx, hc⟩
theorem lo_of_atoms {x : Lo} (h : ∀ l, l.atom → x.cov l → s.lo l = s'.lo l) : s.lo x = s'.lo x := by
 cases x with
 | t i => exact h (.t i) trivial rfl
 | c b j => exact h (.c b j) trivial ⟨rfl, rfl⟩
 | r b =>
   have := cellOf_all fun j => lo_cell (h (.c b j) trivial rfl)
   simp only [St.lo, this]
structure Ag (A : Lo → Prop) (s s' : St) : Prop where
 t : s.T.length = s'.T.length
 c : s.C.length = s'.C.length
 lo : ∀ l, l.atom → A l → s.lo l = s'.lo l
theorem Ag.blk {A : Lo → Prop} (h : Ag A s s') (b : Nat) {k k' : Blk} (hk : ∀ j, A (.c b j) → cellOf k j = cellOf k' j) : Ag A (s.ap (.blk b k)) (s'.ap (.blk b k')) := by
 refine ⟨h.t, by simp [St.ap, h.c], fun l ha hm => ?_⟩
 have h1 := h.lo l ha hm
 cases l with
 | t j => exact h1
 | r b' => exact ha.elim
 | c b' j =>
   have h2 := lo_cell h1
   simp only [St.c] at h2
   simp only [St.lo, St.c, St.ap, getD_set', h.c, Sum.inr.injEq]
   split
   ·rename_i hb
    rw [hb.1] at hm
    exact hk j hm
   ·exact h2
theorem Ag.ap {A : Lo → Prop} (h : Ag A s s') (x : Wr) : Ag A (s.ap x) (s'.ap x) := by
 cases x with
 | put i v =>
   refine ⟨by simp [St.ap, h.t], h.c, fun l ha hm => ?_⟩
   have h1 := h.lo l ha hm
   cases l with
   | t j =>
     have h2 := lo_t h1
     simp only [St.t] at h2
     simp only [St.lo, St.t, St.ap, getD_set', h.t, Sum.inl.injEq]
     split
     ·rfl
     ·exact h2
   | r b => exact h1
   | c b j => exact h1
 | blk b k => exact h.blk b fun _ _ => rfl
 | cel b off xs =>
   refine ⟨by rw [St.len_ap, St.len_ap]; exact h.t, by rw [lenC_ap, lenC_ap]; exact h.c, fun l ha hm => ?_⟩
   have h1 := h.lo l ha hm
   have hout : ∀ (s : St) (l : Lo), (∀ j, l ≠ .c b j) → l.atom → (s.ap (.cel b off xs)).lo l = s.lo l := by
    intro s l hl ha
    rcases s.ap_cel b off xs with e | ⟨cs, _, _, e⟩ <;> rw [e]
    cases l with
    | t j => rfl
    | r b' => exact ha.elim
    | c b' j =>
      simp only [St.lo, St.c, St.ap, getD_set', Sum.inr.injEq]
      rw [if_neg]
      rintro ⟨rfl, _⟩
      exact hl j rfl
   by_cases hl : ∃ j, l = .c b j
   ·obtain ⟨j, rfl⟩ := hl
    have h2 := lo_cell h1
    simp only [St.ap]
    cases hk : s.c b with
    | dead =>
      rw [hk] at h2
      rw [cellOf_dead h2]
      exact h1
    | row zs es =>
      rw [hk] at h2
      rw [cellOf_row h2]
      exact h1
    | tbl zs es pd =>
      rw [hk] at h2
      rw [cellOf_tbl h2]
      exact h1
    | var cs =>
      rw [hk] at h2
      obtain ⟨cs', e, hlen, hj⟩ := cellOf_var h2
      rw [e] at h2
      rw [e]
      simp only [hlen]
      cases hb : Nat.ble (off + xs.length) cs'.length with
      | false => simp only [cond_false]; exact h1
      | true =>
        have hle := Nat.le_of_ble_eq_true hb
        simp only [cond_true, St.lo, St.c, getD_set', h.c, Sum.inr.injEq]
        split
        ·simp only [cellOf]
         congr 1
         refine maskAt_congr (by rw [over_len _ _ _ (by omega), over_len _ _ _ hle, hlen]) ?_
         rw [over_get _ _ _ _ (by omega), over_get _ _ _ _ hle]
         split
         ·rfl
         ·exact hj
        ·simp only [St.c] at hk e
         rw [hk, e]
         exact h2
   ·rw [hout s l (fun j e => hl ⟨j, e⟩) ha, hout s' l (fun j e => hl ⟨j, e⟩) ha]
    exact h1
theorem Ag.aps {A : Lo → Prop} : ∀ (u : List Wr) (s s' : St), Ag A s s' → Ag A (s.aps u) (s'.aps u) := by
 intro u
 induction u with
 | nil => intro s s' h; exact h
 | cons x u ih => intro s s' h; exact ih _ _ (h.ap x)
theorem lo_ap (s : St) (x : Wr) (l : Lo) (ha : l.atom) (h : ¬ Cv (wLos x) l) : (s.ap x).lo l = s.lo l := by
 cases x with
 | put i v =>
   cases l with
   | t j =>
     simp only [St.lo, St.t, St.ap, getD_set', Sum.inl.injEq]
     rw [if_neg]
     rintro ⟨rfl, _⟩
     exact h ⟨.t j, by simp [wLos], rfl⟩
   | r b => rfl
   | c b j => rfl
 | blk b k =>
   cases l with
   | t j => rfl
   | r b' => exact ha.elim
   | c b' j =>
     simp only [St.lo, St.c, St.ap, getD_set', Sum.inr.injEq]
     rw [if_neg]
     rintro ⟨rfl, _⟩
     exact h ⟨.r b', by simp [wLos], rfl⟩
 | cel b off xs =>
   rcases s.ap_cel b off xs with e | ⟨cs, hk, hle, e⟩ <;> rw [e]
   cases l with
   | t j => rfl
   | r b' => exact ha.elim
   | c b' j =>
     simp only [St.lo, St.c, St.ap, getD_set', Sum.inr.injEq]
     split
     ·rename_i hb
      obtain ⟨rfl, _⟩ := hb
      have hk' : s.C.getD b' .dead = .var cs := hk
      rw [hk']
      simp only [cellOf]
      congr 1
      refine maskAt_congr (over_len _ _ _ hle) ?_
      rw [over_get _ _ _ _ hle, if_neg]
      rintro ⟨h1, h2⟩
      refine h ⟨.c b' j, ?_, ⟨rfl, rfl⟩⟩
      simp only [wLos, List.mem_map, List.mem_range]
      exact ⟨j - off, by omega, by congr 1; omega⟩
     ·rfl
theorem lo_aps : ∀ (u : List Wr) (s : St) (l : Lo), l.atom → ¬ Cv (u.flatMap wLos) l → (s.aps u).lo l = s.lo l := by
 intro u
 induction u with
 | nil => intro s l _ _; rfl
 | cons x u ih =>
   intro s l ha h
   rw [List.flatMap_cons, Cv.append, not_or] at h
   exact (ih (s.ap x) l ha h.2).trans (lo_ap s x l ha h.1)
def cellRefs (k : Blk) (j : Nat) : List Nat :=
 match k with
 | .var cs => (cs.getD j .junk).refs
 | k => k.refs
def loRefs (s : St) : Lo → List Nat
 | .t i => (s.t i).refs
 | .r b => (s.c b).refs
 | .c b j => cellRefs (s.c b) j
theorem cellRefs_eq {k k' : Blk} {j : Nat} (h : cellOf k j = cellOf k' j) : cellRefs k j = cellRefs k' j := by
 cases k with
 | dead => rw [cellOf_dead h]
 | row zs es => rw [cellOf_row h]
 | tbl zs es pd => rw [cellOf_tbl h]
 | var cs =>
   obtain ⟨cs', rfl, hl, hj⟩ := cellOf_var h
   simp only [cellRefs, List.getD_eq_getElem?_getD, hj]
theorem loRefs_eq {l : Lo} (h : s.lo l = s'.lo l) : loRefs s l = loRefs s' l := by
 cases l with
 | t i => simp only [loRefs, lo_t h]
 | r b => simp only [loRefs, lo_c h]
 | c b j => exact cellRefs_eq (lo_cell h)
theorem cellRefs_mem {k : Blk} {j q : Nat} (h : q ∈ cellRefs k j) : q ∈ k.refs := by
 cases k with
 | var cs =>
   simp only [cellRefs, List.getD_eq_getElem?_getD] at h
   cases hj : cs[j]? with
   | none => rw [hj] at h; simp [AV.refs] at h
   | some x => rw [hj] at h; exact AV.mem_refsL hj h
 | tbl zs es pd => exact h
 | _ => cases h
theorem loRefs_all : ∀ (u : List Wr) (s : St) (l : Lo) (q : Nat), l.atom → u.all s.fits = true → q ∈ loRefs (s.aps u) l → (¬ Cv (u.flatMap wLos) l ∧ q ∈ loRefs s l) ∨ ∃ p ∈ u.flatMap fsW, p.2 = q := by
 intro u
 induction u with
 | nil => intro s l q _ _ h; exact .inl ⟨by rintro ⟨x, hx, _⟩; simp at hx, h⟩
 | cons x u ih =>
   intro s l q ha hf h
   simp only [List.all_cons, Bool.and_eq_true] at hf
   have hf2 : u.all (s.ap x).fits = true := by
    rw [← fits_local (St.len_ap s x).symm (lenC_ap s x).symm]
    exact hf.2
   rcases ih (s.ap x) l q ha hf2 h with ⟨h1, h2⟩ | ⟨p, hp, hq⟩
   ·by_cases hx : Cv (wLos x) l
    ·right
     cases x with
     | put i v =>
       obtain ⟨y, hy, hc⟩ := hx
       simp only [wLos, List.mem_singleton] at hy
       subst hy
       cases l <;> try exact hc.elim
       rename_i j
       obtain rfl : i = j := hc
       have hi : i < s.T.length := by simpa [St.fits] using hf.1
       simp only [loRefs, St.t, St.ap, getD_set'] at h2
       refine ⟨(.t i, q), ?_, rfl⟩
       simp only [List.flatMap_cons, List.mem_append, fsW, List.mem_map]
       exact .inl ⟨q, by simpa [hi] using h2, rfl⟩
     | blk b k =>
       obtain ⟨y, hy, hc⟩ := hx
       simp only [wLos, List.mem_singleton] at hy
       subst hy
       cases l with
       | t j => exact hc.elim
       | r b' => exact ha.elim
       | c b' j =>
         obtain rfl : b = b' := hc
         have hi : b < s.C.length := by simpa [St.fits] using hf.1
         simp only [loRefs, St.c, St.ap, getD_set'] at h2
         refine ⟨(.r b, q), ?_, rfl⟩
         simp only [List.flatMap_cons, List.mem_append, fsW, List.mem_map]
         exact .inl ⟨q, cellRefs_mem (by simpa [hi] using h2), rfl⟩
     | cel b off xs => cases hf.1
    ·left
     refine ⟨by rw [List.flatMap_cons, Cv.append, not_or]; exact ⟨hx, h1⟩, ?_⟩
     rwa [loRefs_eq (lo_ap s x l ha hx)] at h2
   ·right
    refine ⟨p, ?_, hq⟩
    simp only [List.flatMap_cons, List.mem_append]
    exact .inr hp
theorem loRefs_aps (u : List Wr) (s : St) (l : Lo) (q : Nat) (ha : l.atom) (hf : s.fit u = true) (h : q ∈ loRefs (s.aps u) l) : (¬ Cv (u.flatMap wLos) l ∧ q ∈ loRefs s l) ∨ ∃ p ∈ u.flatMap fsW, p.2 = q := by
 rcases fit_cases hf with ⟨b, off, xs, rfl, hc⟩ | hf
 ·obtain ⟨hb, hx, cs, hk, hle⟩ := celOK_inv hc
  by_cases hcv : Cv (wLos (.cel b off xs)) l
  ·right
   obtain ⟨y, hy, hcy⟩ := hcv
   simp only [wLos, List.mem_map, List.mem_range] at hy
   obtain ⟨i, hi, rfl⟩ := hy
   cases l with
   | t j => exact hcy.elim
   | r b' => exact ha.elim
   | c b' j =>
     obtain ⟨rfl, rfl⟩ := hcy
     have e : s.aps [.cel b off xs] = s.ap (.blk b (.var (over cs off xs))) := by
      show s.ap (.cel b off xs) = _
      simp only [St.ap, hk, Nat.ble_eq_true_of_le hle, cond_true]
     rw [e] at h
     simp only [loRefs, St.c, St.ap, getD_set', hb, and_self, if_true, cellRefs] at h
     rw [List.getD_eq_getElem?_getD] at h
     rw [over_get _ _ _ _ hle, if_pos (by omega), show off + i - off = i by omega, List.getElem?_eq_getElem hi] at h
     refine ⟨(.r b, q), ?_, rfl⟩
     simp only [List.flatMap_cons, List.flatMap_nil, List.append_nil, fsW, List.mem_map]
     exact ⟨q, AV.mem_refsL (List.getElem?_eq_getElem hi) h, rfl⟩
  ·left
   refine ⟨by simpa using hcv, ?_⟩
   have e : (s.aps [.cel b off xs]).lo l = s.lo l := lo_ap s _ l ha hcv
   rwa [loRefs_eq e] at h
 ·exact loRefs_all u s l q ha hf h
theorem noRefs_lo {d : Nat} {ex exb : List Nat} : noRefs d ex exb s = true ↔ (∀ i, i ∉ ex → d ∉ loRefs s (.t i)) ∧ ∀ b, b ∉ exb → ∀ j, d ∉ loRefs s (.c b j) := by
 rw [noRefs_iff]
 constructor
 ·rintro ⟨h1, h2⟩
  refine ⟨fun i hi => ?_, fun b hb j hm => ?_⟩
  ·simp only [loRefs, St.t]
   by_cases hl : i < s.T.length
   ·have := h1 i s.T[i] (List.getElem?_eq_getElem hl) hi
    simpa [List.getD, hl] using this
   ·simp [List.getD, List.getElem?_eq_none (by omega : s.T.length ≤ i), AV.refs]
  ·simp only [loRefs, St.c] at hm
   by_cases hl : b < s.C.length
   ·have := h2 b s.C[b] (List.getElem?_eq_getElem hl) hb
    have e : s.C.getD b .dead = s.C[b] := by simp [List.getD, hl]
    rw [e] at hm
    exact this (cellRefs_mem hm)
   ·simp [List.getD, List.getElem?_eq_none (by omega : s.C.length ≤ b), cellRefs, Blk.refs] at hm
 ·rintro ⟨h1, h2⟩
  refine ⟨fun i x hx hi => ?_, fun b k hk hb hm => ?_⟩
  ·have := h1 i hi
   simpa [loRefs, St.t, List.getD, hx] using this
  ·have e : s.c b = k := by simp [St.c, List.getD, hk]
   cases k with
   | var cs =>
     simp only [Blk.refs, AV.refsL_eq, List.mem_flatMap] at hm
     obtain ⟨x, hx, hq⟩ := hm
     obtain ⟨j, hj⟩ := List.getElem?_of_mem hx
     refine h2 b hb j ?_
     simp only [loRefs, e, cellRefs, List.getD_eq_getElem?_getD, hj]
     exact hq
   | tbl zs es pd =>
     refine h2 b hb 0 ?_
     simp only [loRefs, e, cellRefs]
     exact hm
   | _ => cases hm
theorem GW.local {ops : Array Oper} {b : Bool} (h : ∀ l ∈ rdG ops o, s.lo l = s'.lo l) (hg : GW ops o s b) : GW ops o s' b := by
 unfold GW at hg ⊢
 split at hg
 ·exact hg
 ·rename_i j want hn
  obtain ⟨q, hq, hh⟩ := hg
  have : s.t q = s'.t q := lo_t (h _ (by simp only [rdG, hn, hq]; simp))
  rw [this] at hh
  exact ⟨q, hq, hh⟩
theorem StepR.local {ops : Array Oper} {rd : List Lo} {t : St} (hs : StepR X ops o s u rd t) (hT : s.T.length = s'.T.length) (hC : s.C.length = s'.C.length) (hag : ∀ l, l.atom → Cv rd l ∨ Cv (u.flatMap wLos) l → s.lo l = s'.lo l)
  (hn : ∀ q ∈ nfA X o s, noRefs q (exA o) (nfA X o s) s = true ∧ noRefs q (exA o) (nfA X o s) s' = true) :
  ∃ rd', StepR X ops o s' u rd' (s'.aps u) ∧ (∀ l, l.atom → Cv (u.flatMap wLos) l → (s'.aps u).lo l = t.lo l) := by
 have hA : Ag (fun l => Cv rd l ∨ Cv (u.flatMap wLos) l) s s' := ⟨hT, hC, hag⟩
 have h2 := Ag.aps u s s' hA
 have hrd : ∀ x ∈ rd, s.lo x = s'.lo x := fun x hx => lo_of_atoms fun l ha hc => hag l ha (.inl ⟨x, hx, hc⟩)
 have h1 : s.fit u = true → s'.fit u = true := by
  intro hf
  rcases fit_cases hf with ⟨b, off, xs, rfl, hc⟩ | hf'
  ·obtain ⟨hb, hx, cs, hk, hle⟩ := celOK_inv hc
   have h3 := lo_cell (hag (.c b off) trivial (.inr ⟨.c b off, by
    simp only [List.flatMap_cons, List.flatMap_nil, List.append_nil, wLos, List.mem_map, List.mem_range]
    exact ⟨0, hx, rfl⟩, ⟨rfl, rfl⟩⟩))
   rw [hk] at h3
   obtain ⟨cs', e, hl, _⟩ := cellOf_var h3
   show celOK s' b off xs = true
   unfold celOK
   rw [e]
   simp only [Bool.and_eq_true, Nat.blt_eq]
   exact ⟨by omega, hx, Nat.ble_eq_true_of_le (by omega)⟩
  ·unfold St.fit
   split
   ·rename_i b off xs
    simp only [List.all_cons, Bool.and_eq_true] at hf'
    cases hf'.1
   ·rw [← fits_local hT hC]
    exact hf'
 cases hs with
 | run _ hg hc hf =>
   have hloc : comp X o s = comp X o s' := comp_local hT hC (fun l hl => hrd l (List.mem_append.2 (.inr hl))) hn
   exact ⟨_, .run u (GW.local (fun l hl => hrd l (List.mem_append.2 (.inl hl))) hg) (by rw [← hloc]; exact hc) (h1 hf), fun l ha hl => (h2.lo l ha (.inr hl)).symm⟩
 | skip hg hf =>
   exact ⟨_, .skip (GW.local (fun l hl => hrd l hl) hg) (h1 hf), fun l ha hl => (h2.lo l ha (.inr hl)).symm⟩
theorem StepR.eq {ops : Array Oper} {rd : List Lo} (h : StepR X ops o s u rd s') : s' = s.aps u := by cases h <;> rfl
theorem StepR.fit {ops : Array Oper} {rd : List Lo} (h : StepR X ops o s u rd s') : s.fit u = true := by
 cases h with
 | run _ _ _ hf => exact hf
 | skip _ hf => exact hf
theorem ov_of {a b l : Lo} (ha : a.cov l) (hb : b.cov l) : Lo.ov a b = true := by
 cases a <;> cases l <;> first | exact ha.elim | skip
 all_goals cases b <;> first | exact hb.elim | skip
 all_goals simp_all [Lo.cov, Lo.ov]
theorem meets_spec {x y : List Lo} {l : Lo} (hx : Cv x l) (hy : Cv y l) : meets x y = true := by
 obtain ⟨a, ha, hca⟩ := hx
 obtain ⟨b, hb, hcb⟩ := hy
 exact List.any_eq_true.2 ⟨a, ha, List.any_eq_true.2 ⟨b, hb, ov_of hca hcb⟩⟩
theorem evDr_spec {R : Type} {ops : Array Oper} {r : R} {k : List Rec → St → Option R} : ∀ (os : List Oper) (s : St) (acc : List Rec), evDr X none ops os s acc k = some r →
  ∃ (recs : List Rec) (σ : Nat → St), recs.length = os.length ∧ σ 0 = s ∧ k (acc ++ recs) (σ os.length) = some r ∧
   ∀ i o, os[i]? = some o → ∃ u rd, StepR X ops o (σ i) u rd (σ (i + 1)) ∧ recs[i]? = some (recA X o (σ i) u rd) := by
 intro os
 induction os with
 | nil => intro s acc h; exact ⟨[], fun _ => s, rfl, rfl, by simpa [evDr] using h, by simp⟩
 | cons o os ih =>
   intro s acc h
   obtain ⟨u, rd, s', hs, hk⟩ := evOp_spec h
   obtain ⟨recs, σ, h1, h2, h3, h4⟩ := ih s' _ hk
   refine ⟨recA X o s u rd :: recs, fun | 0 => s | i + 1 => σ i, by simp [h1], rfl, by simpa using h3, fun i o' hi => ?_⟩
   cases i with
   | zero =>
     simp at hi
     subst hi
     exact ⟨u, rd, by simpa [h2] using hs, by simp⟩
   | succ i =>
     obtain ⟨u', rd', h5, h6⟩ := h4 i o' (by simpa using hi)
     exact ⟨u', rd', h5, by simpa using h6⟩
theorem evDr_uni (ops : Array Oper) : ∀ (os : List Oper) (s : St) (acc : List Rec), (∃ (recs : List Rec) (σ : Nat → St), recs.length = os.length ∧ σ 0 = s ∧ (∀ (R : Type) (no : R) (k : List Rec → St → R), evDr X no ops os s acc k = k (acc ++ recs) (σ os.length)) ∧
   ∀ i o, os[i]? = some o → ∃ u rd, StepR X ops o (σ i) u rd (σ (i + 1)) ∧ recs[i]? = some (recA X o (σ i) u rd)) ∨ ∀ (R : Type) (no : R) (k : List Rec → St → R), evDr X no ops os s acc k = no := by
 intro os
 induction os with
 | nil => intro s acc; exact .inl ⟨[], fun _ => s, rfl, rfl, fun _ _ _ => by simp [evDr], by simp⟩
 | cons o os ih =>
   intro s acc
   rcases evOp_uni (X := X) ops o s with ⟨u, rd, s', hs, hk⟩ | hk
   ·rcases ih s' (acc ++ [recA X o s u rd]) with ⟨recs, σ, h1, h2, h3, h4⟩ | h3
    ·refine .inl ⟨recA X o s u rd :: recs, fun | 0 => s | i + 1 => σ i, by simp [h1], rfl, fun R no k => ?_, fun i o' hi => ?_⟩
     ·simp only [evDr]
      rw [hk, h3]
      simp
     ·cases i with
      | zero =>
        simp at hi
        subst hi
        exact ⟨u, rd, by simpa [h2] using hs, by simp⟩
      | succ i =>
        obtain ⟨u', rd', h5, h6⟩ := h4 i o' (by simpa using hi)
        exact ⟨u', rd', h5, by simpa using h6⟩
    ·exact .inr fun R no k => by simp only [evDr]; rw [hk, h3]
   ·exact .inr fun R no k => by simp only [evDr]; rw [hk]
theorem ancs_spec : ∀ (os : List Oper) (acc : List (List Nat)), ∃ rest, ancs os acc = acc ++ rest ∧ ∀ k o, os[k]? = some o → ∀ i, i ∈ (ancs os acc).getD (acc.length + k) [] → ∃ e ∈ edgesOf o, i = e ∨ i ∈ (ancs os acc).getD e [] := by
 intro os
 induction os with
 | nil => intro acc; exact ⟨[], by simp [ancs], by simp⟩
 | cons o os ih =>
   intro acc
   obtain ⟨rest, h1, h2⟩ := ih (acc ++ [(edgesOf o).flatMap fun e => e :: acc.getD e []])
   refine ⟨[(edgesOf o).flatMap fun e => e :: acc.getD e []] ++ rest, by rw [ancs, h1, List.append_assoc], fun k o' hk i hi => ?_⟩
   cases k with
   | zero =>
     simp at hk
     subst hk
     have e0 : (ancs (o :: os) acc).getD (acc.length + 0) [] = (edgesOf o).flatMap fun e => e :: acc.getD e [] := by
      rw [ancs, h1]; simp
     rw [e0] at hi
     obtain ⟨e, he, hm⟩ := List.mem_flatMap.1 hi
     refine ⟨e, he, ?_⟩
     rcases List.mem_cons.1 hm with hm | hm
     ·exact .inl hm
     ·have hlt : e < acc.length := by
       apply Classical.byContradiction
       intro hlt
       simp [List.getD, List.getElem?_eq_none (Nat.not_lt.1 hlt)] at hm
      refine .inr ?_
      rw [ancs, h1, List.append_assoc]
      simpa [List.getD, List.getElem?_append_left hlt] using hm
   | succ k =>
     have := h2 k o' (by simpa using hk) i (by rw [ancs] at hi; simpa [Nat.add_assoc, Nat.add_comm 1 k] using hi)
     simpa only [ancs] using this
theorem forceN_eq {R : Type} (n : Nat) (k : Nat → R) : forceN n k = k n := by cases n <;> rfl
theorem hasB_eq (m i : Nat) : hasB m i = m.testBit i := by
 unfold hasB Nat.testBit
 cases h : Nat.beq (Nat.land 1 (Nat.shiftRight m i)) 0 with
 | true =>
   have h1 : 1 &&& (m >>> i) = 0 := Nat.eq_of_beq_eq_true h
   rw [h1]; rfl
 | false =>
   have h1 : ¬ 1 &&& (m >>> i) = 0 := fun e => by
    have : Nat.beq (Nat.land 1 (Nat.shiftRight m i)) 0 = true := by
     have e' : Nat.land 1 (Nat.shiftRight m i) = 0 := e
     rw [e']; rfl
    rw [h] at this; cases this
   cases h2 : (1 &&& m >>> i != 0) with
   | true => rfl
   | false => exact absurd (by simpa only [bne, Bool.not_eq_false', beq_iff_eq] using h2) h1
theorem ones_bit : ∀ k, k < 64 → ones64.testBit (2 * k) = true := by decide
theorem shl_bit (x n i : Nat) : (Nat.shiftLeft x n).testBit (n + i) = x.testBit i := by
 show (x <<< n).testBit (n + i) = _
 rw [Nat.testBit_shiftLeft]
 simp
theorem ov_bit {a b : Lo} (h : Lo.ov a b = true) : ∃ i, (loM a).testBit i = true ∧ (loM b).testBit i = true := by
 have one : ∀ n, (Nat.shiftLeft 1 n).testBit n = true := fun n => by
  have := shl_bit 1 n 0
  rwa [Nat.add_zero] at this
 have row : ∀ b k, k < 64 → (Nat.shiftLeft ones64 (128 * b + 1)).testBit (128 * b + 1 + 2 * k) = true := fun b k hk => by
  rw [shl_bit]
  exact ones_bit k hk
 cases a <;> cases b <;> simp only [Lo.ov, Bool.and_eq_true, Nat.beq_eq] at h <;> first | (obtain ⟨rfl, rfl⟩ := h) | cases h
 ·exact ⟨_, one _, one _⟩
 ·exact ⟨_, row _ 0 (by omega), row _ 0 (by omega)⟩
 ·rename_i b j
  exact ⟨_, row _ (j % 64) (Nat.mod_lt _ (by omega)), one _⟩
 ·rename_i b j
  exact ⟨_, one _, row _ (j % 64) (Nat.mod_lt _ (by omega))⟩
 ·exact ⟨_, one _, one _⟩
theorem mkL_bit {l : Lo} {i : Nat} (hi : (loM l).testBit i = true) : ∀ {ls : List Lo}, l ∈ ls → (mkL ls).testBit i = true := by
 intro ls
 induction ls with
 | nil => intro h; cases h
 | cons x ls ih =>
   intro h
   have e : mkL (x :: ls) = loM x ||| mkL ls := rfl
   rw [e, Nat.testBit_or]
   rcases List.mem_cons.1 h with h | h
   ·subst h; simp [hi]
   ·rw [ih h]; simp
theorem meets_inv {x y : List Lo} (h : meets x y = true) : ∃ a b, a ∈ x ∧ b ∈ y ∧ Lo.ov a b = true := by
 unfold meets at h
 obtain ⟨l, h1, h2⟩ := List.any_eq_true.1 h
 obtain ⟨l', h3, h4⟩ := List.any_eq_true.1 h2
 exact ⟨l, l', h1, h3, h4⟩
theorem clashM {x y : Rec} (h : conf x y = true) : Nat.beq (Nat.lor (Nat.land (mkL x.u) (Nat.lor (mkL y.rd) (mkL y.u))) (Nat.land (mkL x.rd) (mkL y.u))) 0 = false := by
 cases hb : Nat.beq (Nat.lor (Nat.land (mkL x.u) (Nat.lor (mkL y.rd) (mkL y.u))) (Nat.land (mkL x.rd) (mkL y.u))) 0 with
 | false => rfl
 | true =>
   exfalso
   have e : ((mkL x.u &&& (mkL y.rd ||| mkL y.u)) ||| (mkL x.rd &&& mkL y.u)) = 0 := Nat.eq_of_beq_eq_true hb
   have key : ∀ i, ((mkL x.u &&& (mkL y.rd ||| mkL y.u)) ||| (mkL x.rd &&& mkL y.u)).testBit i = false := by intro i; rw [e]; simp
   unfold conf at h
   simp only [Bool.or_eq_true] at h
   rcases h with h | h | h
   ·obtain ⟨a, b, h1, h2, h3⟩ := meets_inv h
    obtain ⟨i, h4, h5⟩ := ov_bit h3
    have := key i
    rw [Nat.testBit_or, Nat.testBit_and, Nat.testBit_or, mkL_bit h4 h1, mkL_bit h5 h2] at this
    simp at this
   ·obtain ⟨a, b, h1, h2, h3⟩ := meets_inv h
    obtain ⟨i, h4, h5⟩ := ov_bit h3
    have := key i
    rw [Nat.testBit_or, Nat.testBit_and, Nat.testBit_or, mkL_bit h4 h1, mkL_bit h5 h2] at this
    simp at this
   ·obtain ⟨a, b, h1, h2, h3⟩ := meets_inv h
    obtain ⟨i, h4, h5⟩ := ov_bit h3
    have := key i
    rw [Nat.testBit_or, Nat.testBit_and, Nat.testBit_and, mkL_bit h4 h1, mkL_bit h5 h2] at this
    simp at this
theorem prJ_spec {uj rj aj : Nat} : ∀ {l : List (Nat × Nat × Nat)}, prJ uj rj aj l = true → ∀ p ∈ l, Nat.beq (Nat.lor (Nat.land p.2.1 (Nat.lor rj uj)) (Nat.land p.2.2 uj)) 0 = false → aj.testBit p.1 = true := by
 intro l
 induction l with
 | nil => intro _ p hp; cases hp
 | cons q l ih =>
   intro h p hp hc
   obtain ⟨i, ui, ri⟩ := q
   simp only [prJ, Bool.and_eq_true, Bool.or_eq_true] at h
   rcases List.mem_cons.1 hp with hp | hp
   ·subst hp
    rcases h.1 with h1 | h1
    ·rw [← hasB_eq]; exact h1
    ·rw [h1] at hc; cases hc
   ·exact ih h.2 p hp hc
theorem pairsM_spec : ∀ {l : List Rec} {k : Nat} {an : List Nat} {pre : List (Nat × Nat × Nat)}, pairsM l k an pre = true → ∀ j x, l[j]? = some x →
  (∀ p ∈ pre, Nat.beq (Nat.lor (Nat.land p.2.1 (Nat.lor (mkL x.rd) (mkL x.u))) (Nat.land p.2.2 (mkL x.u))) 0 = false → (an.getD j 0).testBit p.1 = true) ∧
  ∀ i y, i < j → l[i]? = some y → conf y x = true → (an.getD j 0).testBit (k + i) = true := by
 intro l
 induction l with
 | nil => intro k an pre _ j x hj; simp at hj
 | cons z l ih =>
   intro k an pre h j x hj
   cases an with
   | nil => simp [pairsM] at h
   | cons a an =>
     simp only [pairsM, forceN_eq, Bool.and_eq_true] at h
     cases j with
     | zero =>
       simp at hj
       subst hj
       exact ⟨fun p hp hc => by simpa using prJ_spec h.1 p hp hc, fun i y hi => absurd hi (Nat.not_lt_zero _)⟩
     | succ j =>
       obtain ⟨h1, h2⟩ := ih h.2 j x (by simpa using hj)
       refine ⟨fun p hp hc => by simpa using h1 p (List.mem_cons_of_mem _ hp) hc, fun i y hi hy hc => ?_⟩
       cases i with
       | zero =>
         simp at hy
         subst hy
         have := h1 (k, mkL z.u, mkL z.rd) List.mem_cons_self (clashM hc)
         simpa using this
       | succ i =>
         have := h2 i y (by omega) (by simpa using hy) hc
         rw [show k + (i + 1) = k + 1 + i by omega]
         simpa using this
theorem ancO_spec {acc : List Nat} {acc0 : List (List Nat)} (h : ∀ j i, (acc.getD j 0).testBit i = true → i ∈ acc0.getD j []) : ∀ (es : List Nat) i, (ancO acc es).testBit i = true → i ∈ es.flatMap fun e => e :: acc0.getD e [] := by
 intro es
 induction es with
 | nil => intro i hi; simp [ancO] at hi
 | cons e es ih =>
   intro i hi
   have e0 : ancO acc (e :: es) = (1 <<< e) ||| (acc.getD e 0 ||| ancO acc es) := rfl
   rw [e0, Nat.testBit_or, Nat.testBit_or] at hi
   simp only [Bool.or_eq_true] at hi
   rw [List.flatMap_cons]
   rcases hi with hi | hi | hi
   ·have : i = e := by
     rw [Nat.testBit_shiftLeft] at hi
     simp only [Bool.and_eq_true, decide_eq_true_eq] at hi
     obtain ⟨hi1, hi2⟩ := hi
     have hz : i - e = 0 := by
      apply Classical.byContradiction
      intro hn
      obtain ⟨n, hn⟩ := Nat.exists_eq_succ_of_ne_zero hn
      rw [hn] at hi2
      simp [Nat.testBit_succ] at hi2
     omega
    subst this
    exact List.mem_append_left _ List.mem_cons_self
   ·exact List.mem_append_left _ (List.mem_cons_of_mem _ (h e i hi))
   ·exact List.mem_append_right _ (ih i hi)
theorem ancM_spec : ∀ (os : List Oper) (acc : List Nat) (acc0 : List (List Nat)), acc.length = acc0.length → (∀ j i, (acc.getD j 0).testBit i = true → i ∈ acc0.getD j []) → ∀ j i, ((ancM os acc).getD j 0).testBit i = true → i ∈ (ancs os acc0).getD j [] := by
 intro os
 induction os with
 | nil => intro acc acc0 _ h j i hi; exact h j i (by simpa [ancM] using hi)
 | cons o os ih =>
   intro acc acc0 hl h j i hi
   simp only [ancM, forceN_eq] at hi
   rw [ancs]
   refine ih _ _ (by simp [hl]) (fun j i hi => ?_) j i hi
   rcases Nat.lt_trichotomy j acc.length with hj | hj | hj
   ·have := h j i (by simpa [List.getD, List.getElem?_append_left hj] using hi)
    simpa [List.getD, List.getElem?_append_left (show j < acc0.length by omega)] using this
   ·subst hj
    have := ancO_spec h (edgesOf o) i (by simpa [List.getD] using hi)
    rw [hl]
    simpa [List.getD] using this
   ·rw [List.getD, List.getElem?_eq_none (by simp; omega)] at hi
    simp at hi
theorem orderOK_old {os : List Oper} {recs : List Rec} {s0 : St} (h : orderOK os recs s0 = true) : orderOK0 os recs s0 = true := by
 unfold orderOK ordM at h
 simp only [Bool.and_eq_true] at h
 obtain ⟨h1, h2, h3⟩ := h
 have ha : ∀ j i, hasB ((ancM os []).getD j 0) i = true → inL i ((ancs os []).getD j []) = true := fun j i hi => inL_iff.2 (ancM_spec os [] [] rfl (fun j i hi => by simp at hi) j i (by rw [← hasB_eq]; exact hi))
 unfold orderOK0
 rw [h1, Bool.true_and, Bool.and_eq_true]
 constructor
 ·rw [List.all_eq_true]
  intro j hj
  rw [List.all_eq_true]
  intro i hi
  rw [List.mem_range] at hj hi
  cases hc : conf (recs.getD i recD) (recs.getD j recD) with
  | false => rfl
  | true =>
    have hj' : recs[j]? = some (recs.getD j recD) := by simp [List.getD, List.getElem?_eq_getElem hj]
    have hi' : recs[i]? = some (recs.getD i recD) := by simp [List.getD, List.getElem?_eq_getElem (Nat.lt_trans hi hj)]
    have := (pairsM_spec h2 j _ hj').2 i _ hi hi' hc
    rw [ha j i (by rw [hasB_eq]; simpa using this)]
    rfl
 ·unfold freshM at h3
  unfold freshOK
  rw [List.all_eq_true] at h3 ⊢
  intro i hi
  have h4 := h3 i hi
  rw [List.all_eq_true] at h4 ⊢
  intro d hd
  have h5 := h4 d hd
  rw [Bool.and_eq_true] at h5 ⊢
  refine ⟨h5.1, ?_⟩
  have h6 := h5.2
  rw [List.all_eq_true] at h6 ⊢
  intro j hj
  have h7 := h6 j hj
  simp only [Bool.or_eq_true] at h7 ⊢
  rcases h7 with h7 | h7 | h7
  ·exact .inl h7
  ·exact .inr (.inl h7)
  ·exact .inr (.inr (ha j i h7))
structure DrOK (X : Cfg) (ops : Array Oper) (σ : Nat → St) (U RD : Nat → List Lo) (anc : Nat → Nat → Prop) : Prop where
 step : ∀ (i : Nat) (o : Oper), ops[i]? = some o → ∃ (u : List Wr) (rd : List Lo), StepR X ops o (σ i) u rd (σ (i + 1)) ∧ U i = u.flatMap wLos ∧ RD i = rd
 edge : ∀ (j : Nat) (o : Oper), ops[j]? = some o → ∀ e ∈ edgesOf o, e < j
 trans : ∀ (j : Nat) (o : Oper), ops[j]? = some o → ∀ i, anc i j → ∃ e ∈ edgesOf o, i = e ∨ anc i e
 clash : ∀ (i j : Nat) (l : Lo), i < j → j < ops.size → (Cv (U i) l ∧ (Cv (RD j) l ∨ Cv (U j) l)) ∨ (Cv (RD i) l ∧ Cv (U j) l) → anc i j
 nf : ∀ (i : Nat) (o : Oper) (q : Nat), ops[i]? = some o → q ∈ nfA X o (σ i) → noRefs q (exA o) (nfA X o (σ i)) (σ 0) = true ∧ ∀ (j : Nat) (l : Lo), l.atom → j < ops.size → Cv (U j) l → q ∈ loRefs (σ (j + 1)) l → j ≠ i → anc i j
theorem DrOK.of {ops : Array Oper} {recs : List Rec} {σ : Nat → St} (hlen : recs.length = ops.toList.length) (hst : ∀ i o, ops.toList[i]? = some o → ∃ u rd, StepR X ops o (σ i) u rd (σ (i + 1)) ∧ recs[i]? = some (recA X o (σ i) u rd)) (hok : orderOK ops.toList recs (σ 0) = true) :
  ∃ U RD, DrOK X ops σ U RD fun i j => i ∈ (ancs ops.toList []).getD j [] := by
 refine ⟨fun i => (recs.getD i recD).u, fun i => (recs.getD i recD).rd, ?_⟩
 have hst' : ∀ (i : Nat) (o : Oper), ops[i]? = some o → ∃ u rd, StepR X ops o (σ i) u rd (σ (i + 1)) ∧ recs.getD i recD = recA X o (σ i) u rd := by
  intro i o hi
  obtain ⟨u, rd, h1, h2⟩ := hst i o (by simpa using hi)
  exact ⟨u, rd, h1, by simp [List.getD, h2]⟩
 replace hok := orderOK_old hok
 unfold orderOK0 at hok
 simp only [Bool.and_eq_true, List.all_eq_true, List.mem_range, Bool.or_eq_true, Bool.not_eq_true'] at hok
 obtain ⟨h1, h2, h3⟩ := hok
 refine ⟨fun i o hi => ?_, fun j o hj e he => ?_, fun j o hj i hi => ?_, fun i j l hij hj hc => ?_, fun i o q hi hq => ?_⟩
 ·obtain ⟨u, rd, h4, h5⟩ := hst' i o hi
  exact ⟨u, rd, h4, by rw [h5]; rfl, by rw [h5]; rfl⟩
 ·have hjl : j < ops.size := (Array.getElem?_eq_some_iff.1 hj).1
  have hd : ops.toList.getD j default = o := by simp [List.getD, hj]
  have := h1 j (by simpa using hjl) e (by rw [hd]; exact he)
  simpa using this
 ·obtain ⟨rest, _, h5⟩ := ancs_spec ops.toList []
  have := h5 j o (by simpa using hj) i (by simpa using hi)
  exact this
 ·rcases h2 j (by rw [hlen]; simpa using hj) i hij with h | h
  ·exfalso
   have : Gv.conf (recs.getD i recD) (recs.getD j recD) = true := by
    unfold Gv.conf
    rcases hc with ⟨e1, e2 | e2⟩ | ⟨e1, e2⟩
    ·rw [meets_spec e1 e2]; rfl
    ·rw [meets_spec e1 e2]; simp
    ·rw [meets_spec e1 e2]; simp
   rw [h] at this
   cases this
  ·exact inL_iff.1 h
 ·have hil : i < ops.size := (Array.getElem?_eq_some_iff.1 hi).1
  obtain ⟨u, rd, _, h5⟩ := hst' i o hi
  unfold freshOK at h3
  simp only [List.all_eq_true, List.mem_range, Bool.and_eq_true, Bool.or_eq_true, Bool.not_eq_true'] at h3
  have h6 := h3 i (by rw [hlen]; simpa using hil) q (by rw [h5]; exact hq)
  rw [h5] at h6
  refine ⟨h6.1, fun j l ha hj hl hg hne => ?_⟩
  have hjo : ops[j]? = some ops[j] := Array.getElem?_eq_getElem hj
  obtain ⟨u', rd', h7, h8⟩ := hst' j _ hjo
  rcases h6.2 j (by rw [hlen]; simpa using hj) with h | h | h
  ·exact absurd (Nat.eq_of_beq_eq_true h).symm hne
  ·exfalso
   replace hl : Cv (recs.getD j recD).u l := hl
   rw [h8] at h hl
   rw [h7.eq] at hg
   rcases loRefs_aps u' (σ j) l q ha h7.fit hg with ⟨h9, _⟩ | ⟨p, hp, h9⟩
   ·exact h9 hl
   ·have := h p hp
    rw [h9] at this
    have e : Nat.beq q q = true := Nat.beq_refl q
    rw [e] at this
    cases this
  ·exact inL_iff.1 h
end
end Go.Proofs.Gv
