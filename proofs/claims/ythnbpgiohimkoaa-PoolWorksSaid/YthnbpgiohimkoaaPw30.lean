import Derived.Test.YthnbpgiohimkoaaPw29
set_option linter.unusedVariables false
namespace Go.Proofs.Gv
section
variable {α : Type} {go : α → Bool} {next : α → α} {a r r' : α}
def iterL (go : α → Bool) (next : α → α) : Nat → α → α
 | 0, a => a
 | n + 1, a => bif go a then iterL go next n (next a) else a
def Ends (go : α → Bool) (next : α → α) (a r : α) : Prop := ∃ n, iterL go next n a = r ∧ go r = false
theorem Ends.stop (h : go a = false) : Ends go next a a := ⟨0, rfl, h⟩
theorem Ends.step (h : go a = true) (k : Ends go next (next a) r) : Ends go next a r := by
 obtain ⟨n, hn, hr⟩ := k
 exact ⟨n + 1, by simp only [iterL, h, cond_true, hn], hr⟩
theorem iterL_stop (h : go a = false) : ∀ n, iterL go next n a = a := by
 intro n
 cases n with
 | zero => rfl
 | succ n => simp only [iterL, h, cond_false]
theorem iterL_more : ∀ (n : Nat) (a : α), go (iterL go next n a) = false → ∀ k, iterL go next (n + k) a = iterL go next n a := by
 intro n
 induction n with
 | zero => intro a h k; rw [Nat.zero_add]; exact iterL_stop h k
 | succ n ih =>
   intro a h k
   rw [show n + 1 + k = (n + k) + 1 from by omega]
   cases hg : go a with
   | false => simp only [iterL, hg, cond_false]
   | true =>
     simp only [iterL, hg, cond_true] at h ⊢
     exact ih (next a) h k
theorem Ends.det (h : Ends go next a r) (h' : Ends go next a r') : r = r' := by
 obtain ⟨n, hn, hr⟩ := h
 obtain ⟨m, hm, hr'⟩ := h'
 have h1 := iterL_more n a (by rw [hn]; exact hr) m
 have h2 := iterL_more m a (by rw [hm]; exact hr') n
 rw [Nat.add_comm] at h2
 rw [← hn, ← hm, ← h1, ← h2]
noncomputable def stopsB (go : α → Bool) (next : α → α) (a : α) : Bool := @decide (∃ r, Ends go next a r) (Classical.propDecidable _)
noncomputable def finL (go : α → Bool) (next : α → α) (a : α) : α := @dite α (∃ r, Ends go next a r) (Classical.propDecidable _) (fun h => Classical.choose h) (fun _ => a)
theorem Ends.fin (h : Ends go next a r) : stopsB go next a = true ∧ finL go next a = r := by
 have he : ∃ r, Ends go next a r := ⟨r, h⟩
 refine ⟨?_, ?_⟩
 ·unfold stopsB
  exact @decide_eq_true _ (Classical.propDecidable _) he
 ·unfold finL
  rw [dif_pos he]
  exact (Classical.choose_spec he).det h
theorem stopsB_ends (h : stopsB go next a = true) : Ends go next a (finL go next a) := by
 unfold stopsB at h
 have he := @of_decide_eq_true _ (Classical.propDecidable _) h
 obtain ⟨r, hr⟩ := he
 rw [hr.fin.2]
 exact hr
theorem Ends.tail (h : Ends go next a r) (hg : go a = true) : Ends go next (next a) r := by
 obtain ⟨n, hn, hr⟩ := h
 cases n with
 | zero =>
   simp only [iterL] at hn
   subst hn
   rw [hg] at hr
   cases hr
 | succ n =>
   simp only [iterL, hg, cond_true] at hn
   exact ⟨n, hn, hr⟩
theorem least_of {p : Nat → Prop} (h : ∃ n, p n) : ∃ n, p n ∧ ∀ m, m < n → ¬ p m := by
 obtain ⟨n, hn⟩ := h
 induction n using Nat.strongRecOn with
 | _ n ih =>
   by_cases hm : ∃ m, m < n ∧ p m
   ·obtain ⟨m, h1, h2⟩ := hm
    exact ih m h1 h2
   ·exact ⟨n, hn, fun m h1 h2 => hm ⟨m, h1, h2⟩⟩
noncomputable def roundsL (go : α → Bool) (next : α → α) (a : α) : Nat := @dite Nat (∃ n, go (iterL go next n a) = false) (Classical.propDecidable _) (fun h => Classical.choose (least_of h)) (fun _ => 0)
theorem roundsL_lt (h : Ends go next a r) (hg : go a = true) : roundsL go next (next a) < roundsL go next a := by
 have e1 : ∃ n, go (iterL go next n a) = false := by obtain ⟨n, hn, hr⟩ := h; exact ⟨n, by rw [hn]; exact hr⟩
 have e2 : ∃ n, go (iterL go next n (next a)) = false := by obtain ⟨n, hn, hr⟩ := h.tail hg; exact ⟨n, by rw [hn]; exact hr⟩
 unfold roundsL
 rw [dif_pos e1, dif_pos e2]
 obtain ⟨h1, _⟩ := Classical.choose_spec (least_of e1)
 obtain ⟨_, h2⟩ := Classical.choose_spec (least_of e2)
 generalize Classical.choose (least_of e1) = n at h1 ⊢
 generalize Classical.choose (least_of e2) = m at h2 ⊢
 cases n with
 | zero =>
   simp only [iterL] at h1
   rw [hg] at h1
   cases h1
 | succ n =>
   simp only [iterL, hg, cond_true] at h1
   have : ¬ n < m := fun hlt => h2 n hlt h1
   omega
abbrev Out := Ex × List AV × List Blk
noncomputable def spI {β : Type} (go : β → α → Bool) (next : β → α → α) (alts : β → α → List (Bool × Out)) (dB : β → α → Bool) (d : β → α → Out) (a : β × α) : Bool × List (Bool × Out) × Out :=
 (stopsB (go a.1) (next a.1) a.2 && ((alts a.1 (finL (go a.1) (next a.1) a.2)).any (fun p => p.1) || dB a.1 (finL (go a.1) (next a.1) a.2)), alts a.1 (finL (go a.1) (next a.1) a.2), d a.1 (finL (go a.1) (next a.1) a.2))
def pickO (l : List (Bool × Out)) (b : Bool) (d : Out) : Option Out :=
 match l with
 | [] => bif b then some d else none
 | (c, e) :: l => bif c then some e else pickO l b d
def notNorm (e : Ex) : Bool :=
 match e with
 | .norm => false
 | _ => true
theorem pickO_some {b : Bool} {d : Out} : ∀ {l : List (Bool × Out)}, (l.any (fun p => p.1) || b) = true → pickO l b d = some (pickE l d) := by
 intro l
 induction l with
 | nil => intro h; simp only [List.any_nil, Bool.false_or] at h; subst h; rfl
 | cons p l ih =>
   intro h
   obtain ⟨c, e⟩ := p
   cases c with
   | true => rfl
   | false =>
     simp only [List.any_cons, Bool.false_or] at h
     exact ih h
theorem pickE_norm {d : Out} : ∀ {l : List (Bool × Out)}, (l.all (fun p => notNorm p.2.1) && notNorm d.1) = true → notNorm (pickE l d).1 = true := by
 intro l
 induction l with
 | nil => intro h; simpa [pickE] using h
 | cons p l ih =>
   intro h
   obtain ⟨c, e⟩ := p
   simp only [List.all_cons, Bool.and_eq_true] at h
   cases c with
   | true => exact h.1.1
   | false => exact ih (by simp only [Bool.and_eq_true]; exact ⟨h.1.2, h.2⟩)
variable {X : Cfg}
theorem LoopOK1.iter {β : Type} {c : Code} {i : Nat} (hi : firstReg c = some i) (κ κb κx κbx : List Nat) (VT : β × α → List AV) (VC : β × α → List Blk) (dec : List AV → List Blk → Option (β × α)) (go : β → α → Bool) (next : β → α → α) (alts : β → α → List (Bool × Out)) (dB : β → α → Bool) (d : β → α → Out)
  (hl : ∀ s, X.lsp i s = lspOf κ κb κx κbx X.nt (X.m + X.nid) dec (spI go next alts dB d) s)
  (hd : ∀ vt vc a, dec vt vc = some a → vt = VT a ∧ vc = VC a)
  (hr : ∀ p s, roundV X c κ κb κx κbx (VT (p, s)) (VC (p, s)) = bif go p s then some (.norm, VT (p, next p s), VC (p, next p s)) else pickO (alts p s) (dB p s) (d p s))
  (hx : ∀ p s, ((alts p s).all (fun p => notNorm p.2.1) && notNorm (d p s).1) = true) : LoopOK1 X c := by
 refine LoopOK1.of hi κ κb κx κbx VT VC dec (spI go next alts dB d) (fun a => roundsL (go a.1) (next a.1) a.2) hl hd (fun a ha => ?_)
 obtain ⟨p, s⟩ := a
 simp only [spI, Bool.and_eq_true] at ha
 obtain ⟨hs, ha⟩ := ha
 have he := stopsB_ends hs
 cases hg : go p s with
 | true =>
   have hn := he.tail hg
   refine ⟨.norm, VT (p, next p s), VC (p, next p s), by rw [hr, hg]; rfl, (p, next p s), rfl, rfl, ?_, ?_, roundsL_lt he hg⟩
   ·simp only [spI, Bool.and_eq_true]
    rw [hn.fin.2]
    exact ⟨hn.fin.1, ha⟩
   ·simp only [spI]
    rw [hn.fin.2]
 | false =>
   have hf : finL (go p) (next p) s = s := (Ends.stop hg).fin.2
   rw [hf] at ha
   have hp := pickO_some (d := d p s) ha
   have hq := pickE_norm (hx p s)
   obtain ⟨⟨ex, vt, vc⟩, hq'⟩ : ∃ q, pickE (alts p s) (d p s) = q := ⟨_, rfl⟩
   rw [hq'] at hp hq
   refine ⟨ex, vt, vc, by rw [hr, hg, cond_false, hp], ?_⟩
   cases ex with
   | norm => cases hq
   | ret => simp only [spI, hf]; exact hq'
   | exit i => simp only [spI, hf]; exact hq'
def selL (i : Nat) (l : St → Option (Bool × List (Bool × Ex × St) × Ex × St)) (rest : Lsp) : Lsp := fun j s => match Nat.beq i j with
 | true => l s
 | false => rest j s
end
end Go.Proofs.Gv
