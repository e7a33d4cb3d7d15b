import Derived.Test.YthnbpgiohimkoaaPw22
set_option linter.unusedVariables false
namespace Go.Proofs.Gv
open Go.RowKit
section
variable {X : Cfg} {B : Bs} {s s' : St} {a : Act} {w : World} {G : Gh} {o : Oper} {u : List Wr} {K : Act → World → Prop} {Q : Exit → Act → World → Prop}
variable {ops : Array Oper} {σ : Nat → St} {U RD : Nat → List Lo} {anc : Nat → Nat → Prop} {L : Array Bool}
theorem some_of_lt {i : Nat} (h : i < ops.size) : ∃ o, ops[i]? = some o := ⟨ops[i], Array.getElem?_eq_getElem h⟩
theorem lt_of_some {i : Nat} (h : ops[i]? = some o) : i < ops.size := (Array.getElem?_eq_some_iff.1 h).1
theorem DrOK.keeps (D : DrOK X ops σ U RD anc) (l : Lo) (ha : l.atom) (m : Nat) : ∀ (k : Nat), m + k ≤ ops.size → (∀ j, m ≤ j → j < m + k → ¬ Cv (U j) l) → (σ m).lo l = (σ (m + k)).lo l := by
 intro k
 induction k with
 | zero => intro _ _; rfl
 | succ k ih =>
   intro hk hn
   rw [ih (by omega) fun j h1 h2 => hn j h1 (by omega)]
   obtain ⟨o, ho⟩ := some_of_lt (ops := ops) (i := m + k) (by omega)
   obtain ⟨u, rd, h1, h2, _⟩ := D.step (m + k) o ho
   rw [← Nat.add_assoc, h1.eq]
   have := hn (m + k) (by omega) (by omega)
   rw [h2] at this
   exact (lo_aps u _ l ha this).symm
theorem DrOK.lens (D : DrOK X ops σ U RD anc) : ∀ (i : Nat), i ≤ ops.size → (σ i).T.length = (σ 0).T.length ∧ (σ i).C.length = (σ 0).C.length := by
 intro i
 induction i with
 | zero => intro _; exact ⟨rfl, rfl⟩
 | succ i ih =>
   intro hi
   obtain ⟨o, ho⟩ := some_of_lt (ops := ops) (i := i) (by omega)
   obtain ⟨u, rd, h1, h2, _⟩ := D.step i o ho
   obtain ⟨h3, h4⟩ := ih (by omega)
   rw [h1.eq, St.len_aps, lenC_aps]
   exact ⟨h3, h4⟩
structure DrInv (ops : Array Oper) (σ : Nat → St) (U : Nat → List Lo) (L : Array Bool) (s : St) : Prop where
 size : L.size = ops.size
 closed : ∀ (j : Nat) (o : Oper), L.getD j false = true → ops[j]? = some o → ∀ e ∈ edgesOf o, L.getD e false = true
 T : s.T.length = (σ 0).T.length
 C : s.C.length = (σ 0).C.length
 at_ : ∀ l : Lo, l.atom → ∃ m, m ≤ ops.size ∧ s.lo l = (σ m).lo l ∧ (m = 0 ∨ ∃ q, m = q + 1 ∧ L.getD q false = true ∧ Cv (U q) l) ∧ ∀ j, L.getD j false = true → Cv (U j) l → j < m
theorem DrInv.ancL (h : DrInv ops σ U L s) (D : DrOK X ops σ U RD anc) : ∀ (j : Nat) (o : Oper), ops[j]? = some o → (∀ e ∈ edgesOf o, L.getD e false = true) → ∀ i, anc i j → L.getD i false = true := by
 intro j
 induction j using Nat.strongRecOn with
 | _ j ih =>
   intro o ho he i hi
   obtain ⟨e, hm, h1⟩ := D.trans j o ho i hi
   rcases h1 with rfl | h1
   ·exact he _ hm
   ·have hlt := D.edge j o ho e hm
    obtain ⟨o', ho'⟩ := some_of_lt (ops := ops) (i := e) (by have := lt_of_some ho; omega)
    exact ih e hlt o' ho' (h.closed e o' (he e hm) ho') i h1
theorem getD_bool {i : Nat} (h : L.getD i true = false) : L.getD i false = false ∧ i < L.size := by
 by_cases hi : i < L.size
 ·simp [hi] at h ⊢
  exact h
 ·simp [hi] at h
theorem getD_set_iff {i j : Nat} (hi : i < L.size) : (L.setIfInBounds i true).getD j false = true ↔ j = i ∨ L.getD j false = true := by
 by_cases e : i = j
 ·subst e
  simp [hi]
 ·rw [getD_set_ne false e]
  constructor
  ·exact .inr
  ·rintro (h | h)
   ·exact (e h.symm).elim
   ·exact h
theorem DrOK.lt (D : DrOK X ops σ U RD anc) : ∀ (j : Nat) (o : Oper), ops[j]? = some o → ∀ i, anc i j → i < j := by
 intro j
 induction j using Nat.strongRecOn with
 | _ j ih =>
   intro o ho i hi
   obtain ⟨e, hm, h1⟩ := D.trans j o ho i hi
   have hlt := D.edge j o ho e hm
   rcases h1 with rfl | h1
   ·exact hlt
   ·obtain ⟨o', ho'⟩ := some_of_lt (ops := ops) (i := e) (by have := lt_of_some ho; omega)
    have := ih e hlt o' ho' i h1
    omega
theorem DrOK.fresh_at (D : DrOK X ops σ U RD anc) {i : Nat} {o : Oper} (ho : ops[i]? = some o) (q : Nat) (hq : q ∈ nfA X o (σ i)) : ∀ k, k ≤ i → noRefs q (exA o) (nfA X o (σ i)) (σ k) = true := by
 intro k
 induction k with
 | zero => intro _; exact (D.nf i o q ho hq).1
 | succ k ih =>
   intro hk
   have h1 := ih (by omega)
   have hil := lt_of_some ho
   obtain ⟨ok, hok⟩ := some_of_lt (ops := ops) (i := k) (by omega)
   obtain ⟨u, rd, h2, h3, _⟩ := D.step k ok hok
   rw [noRefs_lo] at h1 ⊢
   have key : ∀ l : Lo, l.atom → q ∉ loRefs (σ k) l → q ∉ loRefs (σ (k + 1)) l := by
    intro l ha hl hm
    by_cases hu : Cv (U k) l
    ·have := D.lt k ok hok i ((D.nf i o q ho hq).2 k l ha (by omega) hu hm (by omega))
     omega
    ·rw [h2.eq, loRefs_eq (lo_aps u (σ k) l ha (by rw [← h3]; exact hu))] at hm
     exact hl hm
   exact ⟨fun t ht => key _ trivial (h1.1 t ht), fun b hb j => key _ trivial (h1.2 b hb j)⟩
theorem DrInv.step (h : DrInv ops σ U L s) (D : DrOK X ops σ U RD anc) {i : Nat} (hi : i ∈ Region.ready .any ops L) : ∃ o, ops[i]? = some o ∧ ∃ u rd s', StepR X ops o s u rd s' ∧ DrInv ops σ U (L.setIfInBounds i true) s' := by
 obtain ⟨h0, o, ho, he⟩ := mem_ready.1 hi
 obtain ⟨hLi, hil⟩ := getD_bool h0
 have hin := lt_of_some ho
 have hedge : ∀ e ∈ edgesOf o, L.getD e false = true := by
  intro e hm
  simp only [edgesOf, List.mem_map, List.mem_filter, Array.mem_toList_iff] at hm
  obtain ⟨x, ⟨h1, h2⟩, rfl⟩ := hm
  exact he x h1 h2
 have hanc : ∀ j, anc j i → L.getD j false = true := h.ancL D i o ho hedge
 have hnot : ∀ j, L.getD j false = true → ¬ anc i j := by
  intro j hj hij
  have hjl : j < L.size := by
   apply Classical.byContradiction
   intro hjl
   simp [hjl] at hj
  obtain ⟨oj, hoj⟩ := some_of_lt (ops := ops) (i := j) (by rw [← h.size]; exact hjl)
  have := h.ancL D j oj hoj (h.closed j oj hj hoj) i hij
  rw [hLi] at this
  cases this
 have hLlt : ∀ j, L.getD j false = true → j < ops.size := by
  intro j hj
  apply Classical.byContradiction
  intro hjl
  have : ¬ j < L.size := by rw [h.size]; exact hjl
  simp [this] at hj
 obtain ⟨u, rd, hs, hU, hRD⟩ := D.step i o ho
 obtain ⟨hT, hC⟩ := D.lens i (by omega)
 have hag : ∀ l : Lo, l.atom → Cv rd l ∨ Cv (u.flatMap wLos) l → (σ i).lo l = s.lo l := by
  intro l ha hl
  obtain ⟨m, hm, h1, h2, h3⟩ := h.at_ l ha
  rw [h1]
  have hl' : Cv (RD i) l ∨ Cv (U i) l := by rw [hU, hRD]; exact hl
  by_cases hmi : m ≤ i
  ·have := D.keeps l ha m (i - m) (by omega) fun j h4 h5 h6 => by
    have : anc j i := D.clash j i l (by omega) hin (.inl ⟨h6, hl'⟩)
    have := h3 j (hanc j this) h6
    omega
   rw [show m + (i - m) = i from by omega] at this
   exact this.symm
  ·exfalso
   rcases h2 with rfl | ⟨q, rfl, h5, h6⟩
   ·omega
   ·have hqi : q ≠ i := by rintro rfl; rw [hLi] at h5; cases h5
    refine hnot q h5 (D.clash i q l (by omega) (by omega) ?_)
    rcases hl' with hl' | hl'
    ·exact .inr ⟨hl', h6⟩
    ·exact .inl ⟨hl', .inr h6⟩
 have hnf : ∀ q ∈ nfA X o (σ i), noRefs q (exA o) (nfA X o (σ i)) s = true := by
  intro q hq
  obtain ⟨h1, h2⟩ := D.nf i o q ho hq
  rw [noRefs_lo] at h1 ⊢
  have key : ∀ l : Lo, l.atom → q ∉ loRefs (σ 0) l → q ∉ loRefs s l := by
   intro l ha hl hm
   obtain ⟨m, hm', h3, h4, _⟩ := h.at_ l ha
   rw [loRefs_eq h3] at hm
   rcases h4 with rfl | ⟨j, rfl, h6, h7⟩
   ·exact hl hm
   ·refine hnot j h6 (h2 j l ha (by omega) h7 hm ?_)
    rintro rfl
    rw [hLi] at h6
    cases h6
  exact ⟨fun t ht => key _ trivial (h1.1 t ht), fun b hb j => key _ trivial (h1.2 b hb j)⟩
 obtain ⟨rd', hs', hw⟩ := hs.local (s' := s) (by rw [hT, h.T]) (by rw [hC, h.C]) hag (fun q hq => ⟨D.fresh_at ho q hq i (Nat.le_refl _), hnf q hq⟩)
 refine ⟨o, ho, u, rd', s.aps u, hs', by simp [h.size], fun j oj hj hoj e hm => ?_, by rw [St.len_aps]; exact h.T, by rw [lenC_aps]; exact h.C, fun l ha => ?_⟩
 ·rw [getD_set_iff hil] at hj ⊢
  rcases hj with rfl | hj
  ·rw [ho] at hoj
   injection hoj with hoj
   subst hoj
   exact .inr (hedge e hm)
  ·exact .inr (h.closed j oj hj hoj e hm)
 ·by_cases hl : Cv (U i) l
  ·refine ⟨i + 1, by omega, hw l ha (by rw [← hU]; exact hl), .inr ⟨i, rfl, (getD_set_iff hil).2 (.inl rfl), hl⟩, fun j hj hlj => ?_⟩
   rw [getD_set_iff hil] at hj
   rcases hj with rfl | hj
   ·omega
   ·apply Classical.byContradiction
    intro hlt
    exact hnot j hj (D.clash i j l (by omega) (hLlt j hj) (.inl ⟨hl, .inr hlj⟩))
  ·obtain ⟨m, hm, h1, h2, h3⟩ := h.at_ l ha
   refine ⟨m, hm, ?_, ?_, fun j hj hlj => ?_⟩
   ·rw [← h1]
    exact lo_aps u s l ha (by rw [← hU]; exact hl)
   ·rcases h2 with h2 | ⟨q, e1, e2, e3⟩
    ·exact .inl h2
    ·exact .inr ⟨q, e1, (getD_set_iff hil).2 (.inr e2), e3⟩
   ·rw [getD_set_iff hil] at hj
    rcases hj with rfl | hj
    ·exact (hl hlj).elim
    ·exact h3 j hj hlj
theorem DrInv.all (h : DrInv ops σ U L s) (D : DrOK X ops σ U RD anc) (hr : Region.ready .any ops L = []) : ∀ j, j < ops.size → L.getD j false = true := by
 intro j
 induction j using Nat.strongRecOn with
 | _ j ih =>
   intro hj
   apply Classical.byContradiction
   intro hn
   obtain ⟨o, ho⟩ := some_of_lt hj
   have hjl : j < L.size := by rw [h.size]; exact hj
   have : j ∈ Region.ready .any ops L := mem_ready.2 ⟨by simp [hjl] at hn ⊢; exact hn, o, ho, fun e he hb => by
    have hm : e.on ∈ edgesOf o := by
     simp only [edgesOf, List.mem_map, List.mem_filter, Array.mem_toList_iff]
     exact ⟨e, ⟨he, hb⟩, rfl⟩
    have hlt := D.edge j o ho _ hm
    exact ih _ hlt (by omega)⟩
   rw [hr] at this
   cases this
theorem DrInv.done (h : DrInv ops σ U L s) (D : DrOK X ops σ U RD anc) (hr : Region.ready .any ops L = []) (l : Lo) (ha : l.atom) : s.lo l = (σ ops.size).lo l := by
 obtain ⟨m, hm, h1, h2, h3⟩ := h.at_ l ha
 rw [h1]
 have := D.keeps l ha m (ops.size - m) (by omega) fun j h4 h5 h6 => by
  have := h3 j (h.all D hr j (by omega)) h6
  omega
 rwa [show m + (ops.size - m) = ops.size from by omega] at this
theorem dr_any (hΓ : GamOK X.P X.gam) (hI : IdOK X B) (D : DrOK X ops σ U RD anc) : ∀ (fuel : Nat) (L : Array Bool) (s : St) (a : Act) (w : World) (G : Gh), DrInv ops σ U L s → L.toList.count false ≤ fuel → Rel B s a w G →
  (∀ a' w' G', Rel B (σ ops.size) a' w' G' → Q .normal a' w') → wpAny X.P .any ops Q fuel L a w := by
 intro fuel
 have fin : ∀ (L : Array Bool) (s : St) (a : Act) (w : World) (G : Gh), DrInv ops σ U L s → Rel B s a w G → Region.ready .any ops L = [] → Rel B (σ ops.size) a w G := by
  intro L s a w G h hr h0
  have hlo : ∀ l : Lo, s.lo l = (σ ops.size).lo l := fun l => lo_of_atoms fun l' ha _ => h.done D h0 l' ha
  have e : σ ops.size = s := by
   obtain ⟨l1, l2⟩ := D.lens ops.size (Nat.le_refl _)
   have e1 : (σ ops.size).T = s.T := by
    apply List.ext_getElem?
    intro i
    have h3 := lo_t (hlo (.t i))
    simp only [St.t, List.getD_eq_getElem?_getD] at h3
    have hl : (σ ops.size).T.length = s.T.length := by rw [l1, h.T]
    by_cases hi : i < s.T.length
    ·rw [List.getElem?_eq_getElem hi, List.getElem?_eq_getElem (by omega)]
     rw [List.getElem?_eq_getElem hi, List.getElem?_eq_getElem (by omega)] at h3
     simpa using h3.symm
    ·rw [List.getElem?_eq_none (by omega), List.getElem?_eq_none (by omega)]
   have e2 : (σ ops.size).C = s.C := by
    apply List.ext_getElem?
    intro i
    have h3 := lo_c (hlo (.r i))
    simp only [St.c, List.getD_eq_getElem?_getD] at h3
    have hl : (σ ops.size).C.length = s.C.length := by rw [l2, h.C]
    by_cases hi : i < s.C.length
    ·rw [List.getElem?_eq_getElem hi, List.getElem?_eq_getElem (by omega)]
     rw [List.getElem?_eq_getElem hi, List.getElem?_eq_getElem (by omega)] at h3
     simpa using h3.symm
    ·rw [List.getElem?_eq_none (by omega), List.getElem?_eq_none (by omega)]
   generalize σ ops.size = t at e1 e2
   cases t; cases s
   simp at e1 e2
   subst e1 e2
   rfl
  rw [e]
  exact hr
 induction fuel with
 | zero =>
   intro L s a w G h hc hr hQ
   have h0 : Region.ready .any ops L = [] := by
    apply List.eq_nil_iff_forall_not_mem.2
    intro i hi
    obtain ⟨h1, _⟩ := mem_ready.1 hi
    obtain ⟨h2, h3⟩ := getD_bool h1
    have : false ∈ L.toList := by
     simp [h3] at h2
     rw [← h2]
     exact Array.mem_toList_iff.2 (Array.getElem_mem h3)
    have := List.count_pos_iff.2 this
    omega
   exact ⟨h0, hQ _ _ _ (fin L s a w G h hr h0)⟩
 | succ fuel ih =>
   intro L s a w G h hc hr hQ
   refine ⟨fun h0 => hQ _ _ _ (fin L s a w G h hr h0), fun i hi => ?_⟩
   obtain ⟨o, ho, u, rd, s', hs, h'⟩ := h.step D hi
   unfold wpOp
   rw [ho]
   refine hs.wp hΓ hI hr fun a' w' G' hr' => ih _ s' a' w' G' h' ?_ hr' hQ
   obtain ⟨h1, _⟩ := mem_ready.1 hi
   obtain ⟨h2, h3⟩ := getD_bool h1
   have h4 : (L.setIfInBounds i true).toList = L.toList.set i true := by simp
   rw [h4, List.count_set (by simpa using h3)]
   have h5 : L.toList[i] = false := by
    simp [h3] at h2
    simpa using h2
   have h6 : 0 < L.toList.count false := List.count_pos_iff.2 (by rw [← h5]; exact List.getElem_mem _)
   simp [h5]
   simp at hc h6
   omega
theorem evReg_sound {R : Type} (hm : X.P.follows .mixedOrders = true) (hΓ : GamOK X.P X.gam) (hI : IdOK X B) {dr : Bool} {id : Nat} {k : St → Option R} {r : R} (h : Rel B s a w G) (hk : evReg X ops dr s k = some r)
  (hQ : ∀ s' a' w' G', Rel B s' a' w' G' → k s' = some r → Q .normal a' w') : (Code.region id ops dr).wp X.P Q a w := by
 cases dr with
 | false => exact wp_region_list (evOps_sound hΓ hI ops.toList s a w G k r h hk hQ)
 | true =>
   obtain ⟨recs, σ, h1, h2, h3, h4⟩ := evDr_spec ops.toList s [] hk
   subst h2
   simp only [List.nil_append] at h3
   cases hok : orderOK ops.toList recs (σ 0) with
   | false => rw [hok] at h3; cases h3
   | true =>
     rw [hok] at h3
     simp only [cond_true] at h3
     obtain ⟨U, RD, D⟩ := DrOK.of h1 h4 hok
     have hz : ∀ j, (Array.replicate ops.size false).getD j false = false := by
      intro j
      simp only [Array.getD_eq_getD_getElem?, Array.getElem?_replicate]
      split <;> rfl
     have hw : Rel B (σ 0) a { w with drawn := w.drawn + 1 } G := h.grow ⟨rfl, rfl, rfl, Nat.le_refl _, fun _ _ => rfl, fun _ _ => rfl, rfl, fun _ h => h⟩
     refine wp_region_any hm (dr_any hΓ hI D ops.size _ (σ 0) a _ G ⟨by simp, fun j o hj => ?_, rfl, rfl, fun l _ => ⟨0, Nat.zero_le _, rfl, .inl rfl, fun j hj => ?_⟩⟩ ?_ hw fun a' w' G' hr' => hQ _ _ _ _ hr' (by simpa using h3))
     ·rw [hz] at hj; cases hj
     ·rw [hz] at hj; cases hj
     ·simp
theorem evDr_list (hΓ : GamOK X.P X.gam) (hI : IdOK X B) {σ : Nat → St} : ∀ (os : List Oper) (i : Nat) (a : Act) (w : World) (G : Gh), Rel B (σ i) a w G → (∀ j o, os[j]? = some o → ∃ u rd, StepR X ops o (σ (i + j)) u rd (σ (i + j + 1))) →
  (∀ a' w' G', Rel B (σ (i + os.length)) a' w' G' → Q .normal a' w') → wpList X.P ops Q os a w := by
 intro os
 induction os with
 | nil => intro i a w G h _ hQ; exact hQ a w G h
 | cons o os ih =>
   intro i a w G h hst hQ
   obtain ⟨u, rd, hs⟩ := hst 0 o (by simp)
   exact hs.wp hΓ hI h fun a' w' G' h' => ih (i + 1) a' w' G' h' (fun j o' hj => by
    have := hst (j + 1) o' (by simpa using hj)
    rw [show i + (j + 1) = i + 1 + j from by omega] at this
    exact this) (fun a' w' G' h'' => hQ a' w' G' (by rw [show i + (o :: os).length = i + 1 + os.length from by simp; omega]; exact h''))
theorem setAll_out (f : Nat → AV) : ∀ (ds : List Nat) (T : List AV) (i : Nat), i ∉ ds → (ds.foldl (fun T d => T.set d (f d)) T).getD i .junk = T.getD i .junk := by
 intro ds
 induction ds with
 | nil => intro T i _; rfl
 | cons d ds ih =>
   intro T i h
   simp only [List.mem_cons, not_or] at h
   simp only [List.foldl_cons]
   rw [ih _ _ h.2, getD_set', if_neg (fun e => h.1 e.1)]
theorem setAll_in (f : Nat → AV) : ∀ (ds : List Nat) (T : List AV) (i : Nat), i ∈ ds → i < T.length → (ds.foldl (fun T d => T.set d (f d)) T).getD i .junk = f i := by
 intro ds
 induction ds with
 | nil => intro T i h; simp at h
 | cons d ds ih =>
   intro T i h hi
   simp only [List.foldl_cons]
   by_cases hm : i ∈ ds
   ·exact ih _ _ hm (by simpa using hi)
   ·have hd : i = d := by
     rcases List.mem_cons.1 h with h | h
     ·exact h
     ·exact (hm h).elim
    subst hd
    rw [setAll_out _ _ _ _ hm, getD_set', if_pos ⟨rfl, hi⟩]
theorem setAll_len (f : Nat → AV) : ∀ (ds : List Nat) (T : List AV), (ds.foldl (fun T d => T.set d (f d)) T).length = T.length := by
 intro ds
 induction ds with
 | nil => intro T; rfl
 | cons d ds ih => intro T; simp only [List.foldl_cons]; rw [ih]; simp
theorem Rel.weaken (h : Rel B s a w G) (hl : s'.T.length = s.T.length) (hC : s'.C = s.C) (hx : ∀ (i : Nat) (x y : AV), s'.T[i]? = some x → s.T[i]? = some y → x = .junk ∨ x = y) : Rel B s' a w G where
 defers := h.defers
 len := by rw [hl]; exact h.len
 vt i x v hx' hv := by
  have hil : i < s.T.length := by rw [← hl]; exact (List.getElem?_eq_some_iff.1 hx').1
  have hy := List.getElem?_eq_getElem hil
  rcases hx i x _ hx' hy with rfl | rfl
  ·exact .junk _ _
  ·exact h.vt i _ v hy hv
 vb d k hk := h.vb d k (by rw [← hC]; exact hk)
 os := h.os
 tape := h.tape
 output := h.output
 size := h.size
 par := h.par
 old := h.old
 nl := h.nl
theorem evJoin_sound (hm : X.P.follows .mixedOrders = true) (hΓ : GamOK X.P X.gam) (hI : IdOK X B) {dr : Bool} {id : Nat} {l : List Nat} (h : Rel B s a w G) (hok : okJ X ops dr s l = true)
  (hQ : ∀ a' w' G', Rel B (stJ X ops l (dstsOf ops) s) a' w' G' → Q .normal a' w') : (Code.region id ops dr).wp X.P Q a w := by
 rcases evDr_uni (X := X) ops ops.toList s [] with ⟨recs, σ, h1, h2, h3, h4⟩ | h3
 ·subst h2
  simp only [List.nil_append] at h3
  have hba : ∀ d, boolAt X ops (σ 0) d = boolOf ((σ ops.toList.length).t d) := fun d => h3 _ _ _
  unfold okJ at hok
  rw [h3] at hok
  simp only [Bool.and_eq_true] at hok
  obtain ⟨hord, hso, hok⟩ := hok
  ·skip
   have hlen : ops.toList.length = ops.size := Array.length_toList
   have hkeepA : ∀ (lo : Lo), lo.atom → (∀ i, lo = .t i → i ∉ dstsOf ops) → ∀ k, k ≤ ops.toList.length → (σ k).lo lo = (σ 0).lo lo := by
    intro lo ha hlo k
    induction k with
    | zero => intro _; rfl
    | succ k ih =>
      intro hk
      obtain ⟨u, rd, hs, hrec⟩ := h4 k (ops.toList[k]'(by omega)) (List.getElem?_eq_getElem _)
      rw [hs.eq, lo_aps u _ lo ha, ih (by omega)]
      rintro ⟨x, hmem, hc⟩
      have hall := List.all_eq_true.1 (List.all_eq_true.1 hso _ (List.mem_of_getElem? hrec)) x hmem
      cases x with
      | t i =>
        cases lo with
        | t j =>
          obtain rfl : i = j := hc
          exact hlo i rfl (inL_iff.1 hall)
        | _ => exact hc.elim
      | r b => cases hall
      | c b j => cases hall
   have hkeep : ∀ (lo : Lo), (∀ i, lo = .t i → i ∉ dstsOf ops) → ∀ k, k ≤ ops.toList.length → (σ k).lo lo = (σ 0).lo lo := fun lo hlo k hk => lo_of_atoms fun l ha hc => hkeepA l ha (fun i e => by
    subst e
    cases lo with
    | t j => obtain rfl : j = i := hc; exact hlo j rfl
    | _ => exact hc.elim) k hk
   have hT : ∀ k, k ≤ ops.toList.length → (σ k).T.length = (σ 0).T.length := by
    intro k
    induction k with
    | zero => intro _; rfl
    | succ k ih =>
      intro hk
      obtain ⟨u, rd, hs, _⟩ := h4 k (ops.toList[k]'(by omega)) (List.getElem?_eq_getElem _)
      rw [hs.eq, St.len_aps, ih (by omega)]
   have hC : ∀ k, k ≤ ops.toList.length → (σ k).C.length = (σ 0).C.length := by
    intro k
    induction k with
    | zero => intro _; rfl
    | succ k ih =>
      intro hk
      obtain ⟨u, rd, hs, _⟩ := h4 k (ops.toList[k]'(by omega)) (List.getElem?_eq_getElem _)
      rw [hs.eq, lenC_aps, ih (by omega)]
   have fin : ∀ a' w' G', Rel B (σ ops.toList.length) a' w' G' → Q .normal a' w' := by
    intro a' w' G' h'
    refine hQ a' w' G' (h'.weaken ?_ ?_ fun i x y hx hy => ?_)
    ·exact (setAll_len (fun d => match inL d l with | true => AV.bool (boolAt X ops (σ 0) d) | false => .junk) (dstsOf ops) (σ 0).T).trans (hT _ (Nat.le_refl _)).symm
    ·show (σ 0).C = _
     apply List.ext_getElem?
     intro i
     have h3 := lo_c (hkeep (.r i) (fun _ e => by cases e) _ (Nat.le_refl _))
     have hl := hC _ (Nat.le_refl _)
     simp only [St.c, List.getD_eq_getElem?_getD] at h3
     by_cases hi : i < (σ 0).C.length
     ·rw [List.getElem?_eq_getElem hi, List.getElem?_eq_getElem (by omega)]
      rw [List.getElem?_eq_getElem hi, List.getElem?_eq_getElem (by omega)] at h3
      simpa using h3.symm
     ·rw [List.getElem?_eq_none (by omega), List.getElem?_eq_none (by omega)]
    ·replace hx : ((dstsOf ops).foldl (fun T d => T.set d ((fun d => match inL d l with | true => AV.bool (boolAt X ops (σ 0) d) | false => .junk) d)) (σ 0).T)[i]? = some x := hx
     have hil : i < (σ 0).T.length := by
      have := (List.getElem?_eq_some_iff.1 hx).1
      rwa [setAll_len] at this
     have hx' : ((dstsOf ops).foldl (fun T d => T.set d ((fun d => match inL d l with | true => AV.bool (boolAt X ops (σ 0) d) | false => .junk) d)) (σ 0).T).getD i .junk = x := by simp only [List.getD_eq_getElem?_getD, hx]; rfl
     have hy' : (σ ops.toList.length).t i = y := by simp only [St.t, List.getD_eq_getElem?_getD, hy]; rfl
     by_cases hi : i ∈ dstsOf ops
     ·rw [setAll_in _ _ _ _ hi hil] at hx'
      split at hx'
      ·rename_i hin
       have := List.all_eq_true.1 hok i (inL_iff.1 hin)
       rw [hba] at hx'
       rw [hy'] at this hx'
       cases y with
       | bool b => exact .inr hx'.symm
       | _ => cases this
      ·exact .inl hx'.symm
     ·rw [setAll_out _ _ _ _ hi] at hx'
      have := lo_t (hkeep (.t i) (fun j e => by injection e with e; subst e; exact hi) _ (Nat.le_refl _))
      rw [hy'] at this
      exact .inr (hx'.symm.trans this.symm)
   cases dr with
   | false =>
     refine wp_region_list (evDr_list (σ := σ) hΓ hI ops.toList 0 a w G h (fun j o hj => ?_) fun a' w' G' h' => fin a' w' G' (by simpa using h'))
     obtain ⟨u, rd, hs, _⟩ := h4 j o hj
     exact ⟨u, rd, by simpa using hs⟩
   | true =>
     obtain ⟨U, RD, D⟩ := DrOK.of h1 h4 (by simpa using hord)
     have hz : ∀ j, (Array.replicate ops.size false).getD j false = false := by
      intro j
      simp only [Array.getD_eq_getD_getElem?, Array.getElem?_replicate]
      split <;> rfl
     have hw : Rel B (σ 0) a { w with drawn := w.drawn + 1 } G := h.grow ⟨rfl, rfl, rfl, Nat.le_refl _, fun _ _ => rfl, fun _ _ => rfl, rfl, fun _ h => h⟩
     refine wp_region_any hm (dr_any hΓ hI D ops.size _ (σ 0) a _ G ⟨by simp, fun j o hj => ?_, rfl, rfl, fun l _ => ⟨0, Nat.zero_le _, rfl, .inl rfl, fun j hj => ?_⟩⟩ ?_ hw fun a' w' G' hr' => fin a' w' G' (by rw [hlen]; exact hr'))
     ·rw [hz] at hj; cases hj
     ·rw [hz] at hj; cases hj
     ·have := List.count_le_length (a := false) (l := (Array.replicate ops.size false).toList)
      simp
 ·unfold okJ at hok
  rw [h3] at hok
  cases hok
end
end Go.Proofs.Gv
