import Derived.Test.YthnbpgiohimkoaaPw26
set_option linter.unusedVariables false
namespace Go.Proofs.Gv
open Go.RowKit
section
variable {X : Cfg}
theorem evOp_bind {R : Type} (ops : Array Oper) (o : Oper) (s : St) (k : List Wr → List Lo → St → Option R) :
  evOp X none ops o s k = (evOp X none ops o s fun u rd s' => some (u, rd, s')).bind fun p => k p.1 p.2.1 p.2.2 := by
 have hstep : ∀ (s : St) (k : List Wr → St → Option R) (g : List Wr → St → Option (List Wr × List Lo × St)) (f : List Wr × List Lo × St → Option R), (∀ u s', (g u s').bind f = k u s') → stepA X none o s k = (stepA X none o s g).bind f := by
  intro s k g f h
  simp only [stepA_eq]
  unfold stepA0
  split
  ·rename_i b u _
   cases s.fit u <;> cases b <;> simp [h]
  ·rfl
 have hskip : ∀ (s : St) (k : List Wr → St → Option R) (g : List Wr → St → Option (List Wr × List Lo × St)) (f : List Wr × List Lo × St → Option R), (∀ u s', (g u s').bind f = k u s') → skipA none o s k = (skipA none o s g).bind f := by
  intro s k g f h
  unfold skipA
  cases s.fit (skW o) <;> simp [h]
 have hc : ∀ (b : Bool) (x y : Option R) (x' y' : Option (List Wr × List Lo × St)) (f : List Wr × List Lo × St → Option R), x = x'.bind f → y = y'.bind f → cond b x y = (cond b x' y').bind f := by
  intro b x y x' y' f h1 h2
  cases b <;> assumption
 unfold evOp
 split
 ·exact hstep _ _ _ _ fun u s' => rfl
 ·split
  ·rfl
  ·split
   ·rename_i b _
    cases b
    ·simp only [cond_false]
     exact hc _ _ _ _ _ _ (hskip _ _ _ _ fun u s' => rfl) (hstep _ _ _ _ fun u s' => rfl)
    ·simp only [cond_true]
     exact hc _ _ _ _ _ _ (hstep _ _ _ _ fun u s' => rfl) (hskip _ _ _ _ fun u s' => rfl)
   ·exact hskip _ _ _ _ fun u s' => rfl
   ·rfl
theorem evOps_bind {R : Type} (ops : Array Oper) : ∀ (os : List Oper) (s : St) (k : St → Option R), evOps X ops os s k = (evOps X ops os s some).bind k := by
 intro os
 induction os with
 | nil => intro s k; rfl
 | cons o os ih =>
   intro s k
   simp only [evOps]
   rw [evOp_bind, evOp_bind (k := fun _ _ s' => evOps X ops os s' some), Option.bind_assoc]
   congr 1
   funext p
   exact ih _ _
theorem evDr_bind {R : Type} (ops : Array Oper) : ∀ (os : List Oper) (s : St) (acc : List Rec) (k : List Rec → St → Option R), evDr X none ops os s acc k = (evDr X none ops os s acc fun r s => some (r, s)).bind fun p => k p.1 p.2 := by
 intro os
 induction os with
 | nil => intro s acc k; rfl
 | cons o os ih =>
   intro s acc k
   simp only [evDr]
   rw [evOp_bind, evOp_bind (k := fun u rd s' => evDr X none ops os s' (acc ++ [recA X o s u rd]) fun r s => some (r, s)), Option.bind_assoc]
   congr 1
   funext p
   exact ih _ _ _
theorem evReg_bind {R : Type} (ops : Array Oper) (dr : Bool) (s : St) (k : St → Option R) : evReg X ops dr s k = (evReg X ops dr s some).bind k := by
 unfold evReg
 cases dr with
 | false => exact evOps_bind ops _ _ _
 | true =>
   simp only
   rw [evDr_bind, evDr_bind (k := fun recs s' => cond (orderOK ops.toList recs s) (some s') none), Option.bind_assoc]
   congr 1
   funext p
   cases orderOK ops.toList p.1 s <;> rfl
theorem loopN_bind {R : Type} {body : Code} (ih : ∀ {R : Type} (s : St) (k : Ex → St → Option R), evCode X body s k = (evCode X body s fun ex s' => some (ex, s')).bind fun p => k p.1 p.2) :
  ∀ (n : Nat) (s : St) (k : Ex → St → Option R), loopN X (fun s k => evCode X body s k) body n s k = (loopN X (fun s k => evCode X body s k) body n s fun ex s' => some (ex, s')).bind fun p => k p.1 p.2 := by
 intro n
 induction n with
 | zero => intro s k; rfl
 | succ n ihn =>
   intro s k
   simp only [loopN]
   refine Eq.trans (ih _ _) (Eq.trans ?_ (congrArg (fun z => Option.bind z fun (p : Ex × St) => k p.1 p.2) (ih (mask X body s) _).symm))
   simp only [Option.bind_assoc]
   congr 1
   funext p
   obtain ⟨ex, s'⟩ := p
   cases ex with
   | norm => exact ihn _ _
   | ret => rfl
   | exit i => rfl
theorem altK_bind {R : Type} {ex : Ex} {s' : St} : ∀ (alts : List (Bool × Ex × St)) (k : Ex → St → Option R) (k0 : Option R), k0 = k ex s' → altK alts k0 k = (altK alts (some (ex, s')) fun ex s' => some (ex, s')).bind fun p => k p.1 p.2 := by
 intro alts
 induction alts with
 | nil => intro k k0 h; exact h
 | cons p l ihl =>
   intro k k0 h
   obtain ⟨c', ex', s1⟩ := p
   simp only [altK]
   cases c'
   ·exact ihl k k0 h
   ·rfl
theorem evCode_bind : ∀ (c : Code) {R : Type} (s : St) (k : Ex → St → Option R), evCode X c s k = (evCode X c s fun ex s' => some (ex, s')).bind fun p => k p.1 p.2 := by
 intro c
 induction c with
 | seq a b iha ihb =>
   intro R s k
   simp only [evCode]
   refine Eq.trans (iha _ _) (Eq.trans ?_ (congrArg (fun z => Option.bind z fun (p : Ex × St) => k p.1 p.2) (iha s _).symm))
   simp only [Option.bind_assoc]
   congr 1
   funext p
   obtain ⟨ex, s'⟩ := p
   cases ex with
   | norm => exact ihb _ _
   | ret => rfl
   | exit i => rfl
 | cond c a b iha ihb =>
   intro R s k
   simp only [evCode]
   split
   ·rename_i b' _
    cases b'
    ·exact ihb _ _
    ·exact iha _ _
   ·rfl
 | block id c ih =>
   intro R s k
   simp only [evCode]
   refine Eq.trans (ih _ _) (Eq.trans ?_ (congrArg (fun z => Option.bind z fun (p : Ex × St) => k p.1 p.2) (ih s _).symm))
   simp only [Option.bind_assoc]
   congr 1
   funext p
   obtain ⟨ex, s'⟩ := p
   cases ex with
   | norm => rfl
   | ret => rfl
   | exit i =>
     simp only
     cases Nat.beq i id <;> rfl
 | loop c ih =>
   intro R s k
   simp only [evCode]
   split
   ·rename_i b alts ex s' _
    cases b with
    | false => rfl
    | true =>
      simp only [cond_true]
      exact altK_bind alts _ _ rfl
   ·exact loopN_bind ih _ _ _
 | region id ops dr =>
   intro R s k
   simp only [evCode]
   split
   ·simp only [forceS_eq]
    rw [evReg_bind, evReg_bind (k := fun s' => some (Ex.norm, s')), Option.bind_assoc]
    rfl
   ·rename_i l _
    cases okJ X ops dr s l <;> rfl
 | scope c ih => intro R s k; exact ih s k
 | _ => intro R s k; rfl
def roundA (X : Cfg) (c : Code) (s : St) : Option (Ex × St) := evCode X c s fun ex s' => some (ex, s')
theorem loop_run {c : Code} {α : Type} (M : α → St) (out : α → Option (Ex × St)) (κ κb : List Nat) (μ : α → Nat)
  (h : ∀ a r, out a = some r → ∃ ex s1, roundA X c (M a) = some (ex, s1) ∧ match ex with
    | .norm => ∃ a', mask X c s1 = M a' ∧ out a' = some r ∧ μ a' < μ a
    | ex => r.1 = ex ∧ r.2 = clean κ κb s1) :
  ∀ (a : α) (s : St) (r : Ex × St), mask X c s = M a → out a = some r → ∀ {R : Type} (k : Ex → St → Option R) (v : R), k r.1 r.2 = some v → ∃ n, loopN X (fun s k => evCode X c s k) c n s (fun ex s1 => k ex (clean κ κb s1)) = some v := by
 intro a
 generalize hm : μ a = m
 induction m using Nat.strongRecOn generalizing a with
 | _ m ih =>
   intro s r hs ho R k v hk
   obtain ⟨ex, s1, h1, h2⟩ := h a r ho
   unfold roundA at h1
   cases ex with
   | norm =>
     obtain ⟨a', h3, h4, h5⟩ := h2
     obtain ⟨n, hn⟩ := ih (μ a') (by omega) a' rfl s1 r h3 h4 k v hk
     refine ⟨n + 1, ?_⟩
     simp only [loopN]
     rw [hs, evCode_bind, h1]
     exact hn
   | ret =>
     obtain ⟨h3, h4⟩ := h2
     refine ⟨1, ?_⟩
     simp only [loopN]
     rw [hs, evCode_bind, h1]
     rw [h3, h4] at hk
     exact hk
   | exit i =>
     obtain ⟨h3, h4⟩ := h2
     refine ⟨1, ?_⟩
     simp only [loopN]
     rw [hs, evCode_bind, h1]
     rw [h3, h4] at hk
     exact hk
def loopsOf : Code → List Code
 | .seq a b => loopsOf a ++ loopsOf b
 | .cond _ a b => loopsOf a ++ loopsOf b
 | .block _ c => loopsOf c
 | .scope c => loopsOf c
 | .loop c => c :: loopsOf c
 | _ => []
def LoopOK1 (X : Cfg) (c : Code) : Prop := ∀ (s : St) (alts : List (Bool × Ex × St)) (ex : Ex) (s' : St), lspA X c s = some (true, alts, ex, s') → ∀ (R : Type) (k : Ex → St → Option R) (r : R), altK alts (k ex s') k = some r → ∃ n κ κb, loopN X (fun s k => evCode X c s k) c n s (fun ex s1 => k ex (clean κ κb s1)) = some r
theorem LoopsOK.of : ∀ (c : Code), (∀ b ∈ loopsOf c, LoopOK1 X b) → LoopsOK X c := by
 intro c
 induction c with
 | seq a b iha ihb => intro h; exact ⟨iha fun x hx => h x (List.mem_append_left _ hx), ihb fun x hx => h x (List.mem_append_right _ hx)⟩
 | cond c a b iha ihb => intro h; exact ⟨iha fun x hx => h x (List.mem_append_left _ hx), ihb fun x hx => h x (List.mem_append_right _ hx)⟩
 | block i c ih => intro h; exact ih h
 | scope c ih => intro h; exact ih h
 | loop c ih => intro h; exact ⟨ih fun x hx => h x (List.mem_cons_of_mem _ hx), h c List.mem_cons_self⟩
 | _ => intro _; trivial
def isJunk : AV → Bool
 | .junk => true
 | _ => false
def spreadT (κ : List Nat) (vs : List AV) (n : Nat) : List AV := (List.range n).map fun i => vs.getD (ixOf κ i) .junk
def spreadC (κ : List Nat) (vs : List Blk) (n : Nat) : List Blk := (List.range n).map fun i => vs.getD (ixOf κ i) .dead
def spread (κ κb : List Nat) (nt nc : Nat) (vs : List AV) (bs : List Blk) : St := ⟨spreadT κ vs nt, spreadC κb bs nc⟩
def viewT (κ : List Nat) (s : St) : List AV := κ.map s.t
def viewC (κ : List Nat) (s : St) : List Blk := κ.map s.c
def spreadOK (κ κb : List Nat) (nt nc : Nat) (s : St) : Bool :=
 Nat.beq s.T.length nt && (Nat.beq s.C.length nc && ((List.range nt).all (fun i => inL i κ || isJunk (s.t i)) && (List.range nc).all (fun i => inL i κb || isDead (s.c i))))
theorem ixOf_get {κ : List Nat} {i : Nat} (h : inL i κ = true) : κ[ixOf κ i]? = some i := by
 have hm : i ∈ κ := inL_iff.1 h
 unfold ixOf
 have hlt : κ.findIdx (Nat.beq i) < κ.length := List.findIdx_lt_length_of_exists ⟨i, hm, by simp⟩
 have := List.findIdx_getElem (w := hlt)
 rw [List.getElem?_eq_getElem hlt]
 have := Nat.eq_of_beq_eq_true this
 rw [← this]
theorem ixOf_not {κ : List Nat} {i : Nat} (h : inL i κ = false) : ixOf κ i = κ.length := by
 unfold ixOf
 rw [List.findIdx_eq_length]
 intro x hx
 cases hb : Nat.beq i x with
 | false => rfl
 | true =>
   have := Nat.eq_of_beq_eq_true hb
   subst this
   rw [inL_iff.2 hx] at h
   cases h
theorem spread_eq {κ κb : List Nat} {nt nc : Nat} {s : St} (h : spreadOK κ κb nt nc s = true) : s = spread κ κb nt nc (viewT κ s) (viewC κb s) := by
 simp only [spreadOK, Bool.and_eq_true, List.all_eq_true, List.mem_range, Bool.or_eq_true, Nat.beq_eq] at h
 obtain ⟨h1, h2, h3, h4⟩ := h
 obtain ⟨T, C⟩ := s
 simp only at h1 h2
 subst h1 h2
 unfold spread
 congr 1
 ·apply List.ext_getElem
  ·simp [spreadT]
  ·intro i hi hi'
   have e : (spreadT κ (viewT κ ⟨T, C⟩) T.length)[i]'hi' = (viewT κ ⟨T, C⟩).getD (ixOf κ i) .junk := by simp [spreadT]
   rw [e]
   have et : (⟨T, C⟩ : St).t i = T[i] := by simp [St.t, List.getD, hi]
   cases hk : inL i κ with
   | true =>
     simp only [viewT, List.getD, List.getElem?_map, ixOf_get hk, Option.map_some, Option.getD_some]
     exact et.symm
   | false =>
     have := h3 i hi
     rw [hk, et] at this
     simp only [viewT, List.getD, List.getElem?_map, ixOf_not hk]
     simp
     cases hT : T[i] <;> rw [hT] at this <;> simp [isJunk] at this ⊢
 ·apply List.ext_getElem
  ·simp [spreadC]
  ·intro i hi hi'
   have e : (spreadC κb (viewC κb ⟨T, C⟩) C.length)[i]'hi' = (viewC κb ⟨T, C⟩).getD (ixOf κb i) .dead := by simp [spreadC]
   rw [e]
   have et : (⟨T, C⟩ : St).c i = C[i] := by simp [St.c, List.getD, hi]
   cases hk : inL i κb with
   | true =>
     simp only [viewC, List.getD, List.getElem?_map, ixOf_get hk, Option.map_some, Option.getD_some]
     exact et.symm
   | false =>
     have := h4 i hi
     rw [hk, et] at this
     simp only [viewC, List.getD, List.getElem?_map, ixOf_not hk]
     simp
     cases hT : C[i] <;> rw [hT] at this <;> simp [isDead] at this ⊢
end
end Go.Proofs.Gv
