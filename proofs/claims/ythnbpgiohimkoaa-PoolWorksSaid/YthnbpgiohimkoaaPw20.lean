import Derived.Test.YthnbpgiohimkoaaPw19
import Derived.Tactics
set_option linter.unusedVariables false
namespace Go.Proofs.Gv
open Go.RowKit
section
variable {X : Cfg} {B : Bs} {s : St} {a : Act} {w : World} {G : Gh} {o : Oper} {u : List Wr} {K : Act → World → Prop} {Q : Exit → Act → World → Prop}
theorem St.ap_same {q : Nat} {x : AV} (h : s.t q = x) (hj : x ≠ .junk) : s.ap (.put q x) = s := by
 have hq : q < s.T.length := by
  apply Classical.byContradiction
  intro hq
  apply hj
  rw [← h]
  simp [St.t, List.getD, hq]
 have hx : s.T[q] = x := by rw [← h]; simp [St.t, List.getD, hq]
 show ({ s with T := s.T.set q x } : St) = s
 rw [← hx, List.set_getElem_self]
theorem Rel.some_of (h : Rel B s a w G) {q : Nat} (hj : s.t q ≠ .junk) : ∃ v, a.tmps[q]? = some v ∧ V G w true (s.t q) v := by
 have hq : q < s.T.length := by
  apply Classical.byContradiction
  intro hq
  apply hj
  simp [St.t, List.getD, hq]
 have h1 : s.T[q]? = some (s.t q) := by simp [St.t, List.getD, hq]
 have h2 : a.tmps[q]? = some (a.tmps[q]'(by rw [← h.len]; exact hq)) := Array.getElem?_eq_getElem _
 exact ⟨_, h2, h.vt q _ _ h1 h2⟩
def GW (ops : Array Oper) (o : Oper) (s : St) (b : Bool) : Prop :=
 match o.guard with
 | none => b = true
 | some (j, want) => ∃ q, (ops[j]?).bind (·.dst) = some q ∧ ((∃ c, s.t q = .bool c ∧ b = (c == want)) ∨ (s.t q = .tup [] ∧ b = false))
inductive StepR (X : Cfg) (ops : Array Oper) (o : Oper) (s : St) : List Wr → List Lo → St → Prop where
 | run (u : List Wr) (hg : GW ops o s true) (hc : comp X o s = some (true, u)) (hf : s.fit u = true) : StepR X ops o s u (rdA X ops o s) (s.aps u)
 | skip (hg : GW ops o s false) (hf : s.fit (skW o) = true) : StepR X ops o s (skW o) (rdG ops o) (s.aps (skW o))
theorem forceV_eq {R : Type} (x : AV) (k : AV → R) : forceV x k = k x := by cases x <;> rfl
theorem forceL_eq {R : Type} : ∀ (l : List AV) (k : List AV → R), forceL l k = k l := by
 intro l
 induction l with
 | nil => intro k; rfl
 | cons x l ih => intro k; simp only [forceL, forceV_eq, ih]
theorem forceB_eq {R : Type} (x : Blk) (k : Blk → R) : forceB x k = k x := by
 cases x with
 | var cs => simp only [forceB, forceL_eq]
 | _ => rfl
theorem forceC_eq {R : Type} : ∀ (l : List Blk) (k : List Blk → R), forceC l k = k l := by
 intro l
 induction l with
 | nil => intro k; rfl
 | cons x l ih => intro k; simp only [forceC, forceB_eq, ih]
theorem forceS_eq {R : Type} (s : St) (k : St → R) : forceS s k = k s := by
 simp only [forceS, forceL_eq, forceC_eq]
theorem stepA_uni : (∃ u, comp X o s = some (true, u) ∧ s.fit u = true ∧ ∀ (R : Type) (no : R) (k : List Wr → St → R), stepA X no o s k = k u (s.aps u)) ∨ ∀ (R : Type) (no : R) (k : List Wr → St → R), stepA X no o s k = no := by
 simp only [stepA_eq]
 unfold stepA0
 cases hc : comp X o s with
 | none => exact .inr fun _ _ _ => rfl
 | some x =>
   obtain ⟨b, u⟩ := x
   cases hf : s.fit u with
   | false => exact .inr fun _ _ _ => by simp only [hf]; rfl
   | true =>
     cases b with
     | false => exact .inr fun _ _ _ => by simp only [hf]; rfl
     | true => exact .inl ⟨u, rfl, hf, fun _ _ _ => by simp only [hf]; rfl⟩
theorem skipA_uni : (s.fit (skW o) = true ∧ ∀ (R : Type) (no : R) (k : List Wr → St → R), skipA no o s k = k (skW o) (s.aps (skW o))) ∨ ∀ (R : Type) (no : R) (k : List Wr → St → R), skipA no o s k = no := by
 unfold skipA
 cases hf : s.fit (skW o) with
 | false => exact .inr fun _ _ _ => rfl
 | true => exact .inl ⟨rfl, fun _ _ _ => rfl⟩
theorem evOp_uni (ops : Array Oper) (o : Oper) (s : St) : (∃ u rd s', StepR X ops o s u rd s' ∧ ∀ (R : Type) (no : R) (k : List Wr → List Lo → St → R), evOp X no ops o s k = k u rd s') ∨ ∀ (R : Type) (no : R) (k : List Wr → List Lo → St → R), evOp X no ops o s k = no := by
 unfold evOp
 cases hg : o.guard with
 | none =>
   rcases stepA_uni (X := X) (o := o) (s := s) with ⟨u, h1, h2, h3⟩ | h
   ·exact .inl ⟨_, _, _, .run u (by unfold GW; rw [hg]) h1 h2, fun _ _ _ => h3 _ _ _⟩
   ·exact .inr fun _ _ _ => h _ _ _
 | some g =>
   obtain ⟨j, want⟩ := g
   simp only
   cases hq : (ops[j]?).bind (·.dst) with
   | none => exact .inr fun _ _ _ => rfl
   | some q =>
     simp only
     have hskip : GW ops o s false → (∃ u rd s', StepR X ops o s u rd s' ∧ ∀ (R : Type) (no : R) (k : List Wr → List Lo → St → R), (skipA no o s fun u s' => k u (rdG ops o) s') = k u rd s') ∨ ∀ (R : Type) (no : R) (k : List Wr → List Lo → St → R), (skipA no o s fun u s' => k u (rdG ops o) s') = no := by
      intro gw
      rcases skipA_uni (o := o) (s := s) with ⟨h1, h2⟩ | h
      ·exact .inl ⟨_, _, _, .skip gw h1, fun _ _ _ => h2 _ _ _⟩
      ·exact .inr fun _ _ _ => h _ _ _
     have hrun : GW ops o s true → (∃ u rd s', StepR X ops o s u rd s' ∧ ∀ (R : Type) (no : R) (k : List Wr → List Lo → St → R), (stepA X no o s fun u s' => k u (rdA X ops o s) s') = k u rd s') ∨ ∀ (R : Type) (no : R) (k : List Wr → List Lo → St → R), (stepA X no o s fun u s' => k u (rdA X ops o s) s') = no := by
      intro gw
      rcases stepA_uni (X := X) (o := o) (s := s) with ⟨u, h1, h2, h3⟩ | h
      ·exact .inl ⟨_, _, _, .run u gw h1 h2, fun _ _ _ => h3 _ _ _⟩
      ·exact .inr fun _ _ _ => h _ _ _
     split
     ·rename_i b hb
      have hs : s.ap (.put q (.bool b)) = s := St.ap_same hb (by simp)
      have gw : ∀ b', b' = (b == want) → GW ops o s b' := fun b' e => by
       unfold GW
       rw [hg]
       exact ⟨q, hq, .inl ⟨b, hb, e⟩⟩
      cases b <;> cases want <;> simp only [cond_true, cond_false, hs]
      ·exact hrun (gw true rfl)
      ·exact hskip (gw false rfl)
      ·exact hskip (gw false rfl)
      ·exact hrun (gw true rfl)
     ·rename_i hb
      exact hskip (by unfold GW; rw [hg]; exact ⟨q, hq, .inr ⟨hb, rfl⟩⟩)
     ·exact .inr fun _ _ _ => rfl
theorem evOp_spec {R : Type} {ops : Array Oper} {k : List Wr → List Lo → St → Option R} {r : R} (h : evOp X none ops o s k = some r) : ∃ u rd s', StepR X ops o s u rd s' ∧ k u rd s' = some r := by
 rcases evOp_uni (X := X) ops o s with ⟨u, rd, s', h1, h2⟩ | h2
 ·exact ⟨u, rd, s', h1, by rw [h2] at h; exact h⟩
 ·rw [h2] at h; cases h
theorem GW_wanted {ops : Array Oper} {b : Bool} (h : Rel B s a w G) (hg : GW ops o s b) : Region.wanted o (yielded ops a.tmps) = b := by
 unfold GW at hg
 unfold Region.wanted
 split at hg
 ·rename_i hn
  rw [hn, hg]
 ·rename_i j want hn
  obtain ⟨q, hq, hh⟩ := hg
  rw [hn]
  simp only [yielded, hq, Option.bind_some]
  rcases hh with ⟨c, hc, hb⟩ | ⟨hc, hb⟩
  ·obtain ⟨v, h1, h2⟩ := h.some_of (by rw [hc]; simp)
   rw [hc] at h2
   cases h2
   rw [h1, hb]
   cases c <;> cases want <;> rfl
  ·obtain ⟨v, h1, h2⟩ := h.some_of (by rw [hc]; simp)
   rw [hc] at h2
   cases h2 with
   | tup _ _ vs hl _ =>
     rw [h1, hb]
     rfl
theorem StepR.wp {ops : Array Oper} {rd : List Lo} {s' : St} (hΓ : GamOK X.P X.gam) (hI : IdOK X B) (h : Rel B s a w G) (hs : StepR X ops o s u rd s') (hK : ∀ a' w' G', Rel B s' a' w' G' → K a' w') :
  if Region.wanted o (yielded ops a.tmps) then o.wp X.P a w K Q ∨ (o.asks X.P a w ∧ LetsOut Q) else K (a.put o.dst undef) w := by
 cases hs with
 | run _ hg hc hf =>
   rw [if_pos (GW_wanted h hg)]
   exact .inl (comp_sound hΓ hI h hc hK)
 | skip hg hf =>
   rw [if_neg (by rw [GW_wanted h hg]; simp)]
   refine hK _ _ G ?_
   unfold skW
   cases hd : o.dst with
   | none => exact h
   | some d => exact h.put d (.tup []) undef (.tup _ _ #[] rfl (fun i x v hx => by simp at hx))
theorem evOps_sound {R : Type} (hΓ : GamOK X.P X.gam) (hI : IdOK X B) {ops : Array Oper} : ∀ (os : List Oper) (s : St) (a : Act) (w : World) (G : Gh) (k : St → Option R) (r : R), Rel B s a w G → evOps X ops os s k = some r →
  (∀ s' a' w' G', Rel B s' a' w' G' → k s' = some r → Q .normal a' w') → wpList X.P ops Q os a w := by
 intro os
 induction os with
 | nil => intro s a w G k r h hk hQ; exact hQ s a w G h hk
 | cons o os ih =>
   intro s a w G k r h hk hQ
   obtain ⟨u, rd, s', hs, hk'⟩ := evOp_spec hk
   exact hs.wp hΓ hI h fun a' w' G' h' => ih s' a' w' G' k r h' hk' hQ
end
end Go.Proofs.Gv
