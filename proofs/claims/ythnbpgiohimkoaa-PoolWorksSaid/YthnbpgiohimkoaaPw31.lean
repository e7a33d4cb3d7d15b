import Derived.Test.YthnbpgiohimkoaaPw30
import Derived.Test.YthnbpgiohimkoaaPw26
import Derived.ScopeJumps
set_option linter.unusedVariables false
namespace Go.Proofs.Gv
open Go.RowKit
def gotosJ : Code → List Nat
 | .seq a b => gotosJ a ++ gotosJ b
 | .cond _ a b => gotosJ a ++ gotosJ b
 | .block _ c => gotosJ c
 | .loop c => gotosJ c
 | .goto l => [l]
 | _ => []
def headLab : Code → Option Nat
 | .seq (.label l) _ => some l
 | .seq _ b => headLab b
 | _ => none
def hasGo : Code → Bool
 | .seq a b => hasGo a || hasGo b
 | .cond _ a b => hasGo a || hasGo b
 | .block _ c => hasGo c
 | .loop c => hasGo c
 | .scope c => hasGo c
 | .label _ => true
 | .goto _ => true
 | _ => false
def okId (g i : Nat) (c : Code) : Code :=
 match Nat.blt i g with
 | true => c
 | false => .refuse ""
def okC (b : Bool) (c : Code) : Code :=
 match b with
 | true => c
 | false => .refuse ""
def fore (a b : Code) : Bool :=
 match headLab b, gotosJ a with
 | some l, [] => match findLabel a l with
   | none => true
   | some _ => false
 | _, _ => false
def goodJ : Code → Bool
 | .seq (.label l) d => (gotosJ d).all (Nat.beq l)
 | .seq a b => fore a b && goodJ b
 | _ => false
def unjump (g : Nat) : Bool → Code → Code
 | true, .seq (.label l) d => .loop (.block (l + g + 1) (.seq (unjump g false d) (.exit g)))
 | true, .seq a b => .seq (unjump g false a) (unjump g true b)
 | true, _ => .refuse ""
 | false, .seq a b => .seq (unjump g false a) (unjump g false b)
 | false, .cond c a b => .cond c (unjump g false a) (unjump g false b)
 | false, .block i c => okId g i (.block i (unjump g false c))
 | false, .loop c => .loop (unjump g false c)
 | false, .exit i => okId g i (.exit i)
 | false, .goto l => .exit (l + g + 1)
 | false, .scope c => okC (goodJ c) (.block g (unjump g true c))
 | false, c => c
def exJ (g : Nat) (e : Ex) : Exit :=
 match e with
 | .norm => .normal
 | .ret => .ret
 | .exit i => if g < i then .goto (i - g - 1) else .exit i
def imgJ (g : Nat) (l : List Nat) (e : Ex) : Prop := ∀ i, e = .exit i → i ≠ g ∧ (g < i → i - g - 1 ∈ l)
theorem imgJ.norm {g : Nat} {l : List Nat} : imgJ g l .norm := fun _ h => by cases h
theorem imgJ.ret {g : Nat} {l : List Nat} : imgJ g l .ret := fun _ h => by cases h
theorem imgJ.mono {g : Nat} {l m : List Nat} {e : Ex} (h : imgJ g l e) (hs : ∀ x ∈ l, x ∈ m) : imgJ g m e := fun i hi => ⟨(h i hi).1, fun hg => hs _ ((h i hi).2 hg)⟩
section
variable {X : Cfg} {B : Bs} {g : Nat}
theorem okId_ev {R : Type} {i : Nat} {c : Code} {s : St} {k : Ex → St → Option R} {r : R} (h : evCode X (okId g i c) s k = some r) : i < g ∧ okId g i c = c := by
 unfold okId at h ⊢
 cases hb : Nat.blt i g with
 | true => exact ⟨by simpa [Nat.blt_eq] using hb, rfl⟩
 | false => rw [hb] at h; cases h
theorem okC_ev {R : Type} {b : Bool} {c : Code} {s : St} {k : Ex → St → Option R} {r : R} (h : evCode X (okC b c) s k = some r) : b = true ∧ okC b c = c := by
 unfold okC at h ⊢
 cases b with
 | true => exact ⟨rfl, rfl⟩
 | false => cases h
def SoundJ (g : Nat) (X : Cfg) (B : Bs) (c : Code) : Prop := ∀ (R : Type) (r : R) (_ : LoopsOK X (unjump g false c)) (s : St) (a : Act) (w : World) (G : Gh) (Q : Exit → Act → World → Prop) (k : Ex → St → Option R), Rel B s a w G → evCode X (unjump g false c) s k = some r →
  (∀ ex s' a' w' G', imgJ g (gotosJ c) ex → Rel B s' a' w' G' → k ex s' = some r → Q (exJ g ex) a' w') → c.wp X.P Q a w
def exL (g : Nat) (e : Ex) : Exit :=
 match e with
 | .exit i => if i = g then .normal else exJ g (.exit i)
 | e => exJ g e
abbrev bodyJ (g l : Nat) (d : Code) : Code := .block (l + g + 1) (.seq (unjump g false d) (.exit g))
theorem exJ_not {l i : Nat} {J : Act → World → Prop} {Q : Exit → Act → World → Prop} {a : Act} {w : World} {m : List Nat} (hm : m.all (Nat.beq l) = true) (hi : imgJ g m (.exit i)) (hn : i ≠ l + g + 1) (hq : Q (exJ g (.exit i)) a w) : Exit.jump l J Q (exJ g (.exit i)) a w := by
 unfold exJ at hq ⊢
 by_cases hgi : g < i
 ·exfalso
  have := (hi i rfl).2 hgi
  have := Nat.eq_of_beq_eq_true (List.all_eq_true.1 hm _ this)
  omega
 ·simp only [if_neg hgi] at hq ⊢
  exact hq
theorem roundJ {d : Code} {l : Nat} (hI : IdOK X B) (hd : SoundJ g X B d) (hL : LoopsOK X (unjump g false d)) (hm : (gotosJ d).all (Nat.beq l) = true) {R : Type} {r : R} {Q : Exit → Act → World → Prop} {K : Ex → St → Option R}
  (hK : ∀ ex s' a' w' G', imgJ g [] ex ∨ ex = .exit g → Rel B s' a' w' G' → K ex s' = some r → Q (exL g ex) a' w') {n : Nat} {s : St} {a : Act} {w : World} {G : Gh} (h : Rel B s a w G)
  (hn : loopN X (fun s k => evCode X (bodyJ g l d) s k) (bodyJ g l d) n s K = some r) :
  ∃ m, n = m + 1 ∧ d.wp X.P (Exit.jump l (fun a' w' => ∃ s' G', loopN X (fun s k => evCode X (bodyJ g l d) s k) (bodyJ g l d) m s' K = some r ∧ Rel B s' a' w' G') Q) a w := by
 cases n with
 | zero => cases hn
 | succ m =>
   obtain ⟨G1, h1⟩ := h.mask (X := X) hI.m (bodyJ g l d)
   refine ⟨m, rfl, ?_⟩
   simp only [loopN, bodyJ, evCode] at hn
   refine hd R r hL _ a w G1 _ _ h1 hn fun ex s' a' w' G' hi h' hk' => ?_
   have hg : Nat.beq g (l + g + 1) = false := by
    cases hb : Nat.beq g (l + g + 1) with
    | false => rfl
    | true => have := Nat.eq_of_beq_eq_true hb; omega
   cases ex with
   | norm =>
     simp only [hg, cond_false] at hk'
     have := hK (.exit g) s' a' w' G' (.inr rfl) h' hk'
     simpa [exL, exJ, Exit.jump] using this
   | ret => exact hK .ret s' a' w' G' (.inl imgJ.ret) h' hk'
   | exit i =>
     simp only at hk'
     cases hb : Nat.beq i (l + g + 1) with
     | true =>
       rw [hb] at hk'
       have := Nat.eq_of_beq_eq_true hb
       subst this
       have e : exJ g (.exit (l + g + 1)) = .goto l := by
        show (if g < l + g + 1 then Exit.goto (l + g + 1 - g - 1) else Exit.exit (l + g + 1)) = Exit.goto l
        rw [if_pos (by omega), show l + g + 1 - g - 1 = l from by omega]
       rw [e]
       exact ⟨rfl, s', G', hk', h'⟩
     | false =>
       rw [hb] at hk'
       have hne : i ≠ l + g + 1 := fun e => by subst e; simp at hb
       have h0 : imgJ g [] (.exit i) := by
        intro j hj
        injection hj with hj
        subst hj
        refine ⟨(hi i rfl).1, fun hg => ?_⟩
        exfalso
        have := (hi i rfl).2 hg
        have := Nat.eq_of_beq_eq_true (List.all_eq_true.1 hm _ this)
        omega
       have := hK (.exit i) s' a' w' G' (.inl h0) h' hk'
       have e : exL g (.exit i) = exJ g (.exit i) := by unfold exL; simp only; rw [if_neg (hi i rfl).1]
       rw [e] at this
       exact exJ_not hm hi hne this
abbrev GoodK (g : Nat) (B : Bs) {R : Type} (r : R) (Q : Exit → Act → World → Prop) (K : Ex → St → Option R) : Prop := ∀ ex s' a' w' G', imgJ g [] ex ∨ ex = .exit g → Rel B s' a' w' G' → K ex s' = some r → Q (exL g ex) a' w'
def ScopeJ (g : Nat) (X : Cfg) (B : Bs) (c : Code) : Prop := goodJ c = true → ∃ l d, headLab c = some l ∧ findLabel c l = some (.seq .skip d) ∧ SoundJ g X B d ∧ (LoopsOK X (unjump g true c) → LoopsOK X (unjump g false d)) ∧ (gotosJ d).all (Nat.beq l) = true ∧
 ∀ (R : Type) (r : R) (_ : LoopsOK X (unjump g true c)) (s : St) (a : Act) (w : World) (G : Gh) (Q : Exit → Act → World → Prop) (k : Ex → St → Option R), Rel B s a w G → evCode X (unjump g true c) s k = some r → GoodK g B r Q k →
   c.wp X.P (Exit.jump l (fun a' w' => ∃ (n : Nat) (K : Ex → St → Option R) (s' : St) (G' : Gh), GoodK g B r Q K ∧ loopN X (fun s k => evCode X (bodyJ g l d) s k) (bodyJ g l d) n s' K = some r ∧ Rel B s' a' w' G') Q) a w
theorem scope_wp (hI : IdOK X B) {c : Code} (hc : ScopeJ g X B c) (hgood : goodJ c = true) {R : Type} {r : R} (hL : LoopsOK X (unjump g true c)) {s : St} {a : Act} {w : World} {G : Gh} {Q : Exit → Act → World → Prop} {k : Ex → St → Option R} (h : Rel B s a w G) (hev : evCode X (unjump g true c) s k = some r)
  (hk : ∀ ex s' a' w' G', imgJ g [] ex ∨ ex = .exit g → Rel B s' a' w' G' → k ex s' = some r → Q (exL g ex) a' w') : (Code.scope c).wp X.P Q a w := by
 obtain ⟨l, d, hl, hf, hd, hLd, hm, hw⟩ := hc hgood
 have hLd := hLd hL
 have hw := hw R r hL s a w G Q k h hev hk
 let Jn : Nat → Act → World → Prop := fun n a' w' => ∃ (K : Ex → St → Option R) (s' : St) (G' : Gh), (∀ ex s' a' w' G', imgJ g [] ex ∨ ex = .exit g → Rel B s' a' w' G' → K ex s' = some r → Q (exL g ex) a' w') ∧ loopN X (fun s k => evCode X (bodyJ g l d) s k) (bodyJ g l d) n s' K = some r ∧ Rel B s' a' w' G'
 have hμ : ∀ a w, ∃ μ : Nat, (∃ n, Jn n a w) → Jn μ a w ∧ ∀ m, Jn m a w → μ ≤ m := by
  intro a w
  by_cases h : ∃ n, Jn n a w
  ·obtain ⟨n, h1⟩ := least h
   exact ⟨n, fun _ => h1⟩
  ·exact ⟨0, fun h' => (h h').elim⟩
 let μ : Act → World → Nat := fun a w => Classical.choose (hμ a w)
 have hμs : ∀ a w, (∃ n, Jn n a w) → Jn (μ a w) a w ∧ ∀ m, Jn m a w → μ a w ≤ m := fun a w => Classical.choose_spec (hμ a w)
 refine wp_scope_jumps l (fun a w => ∃ n, Jn n a w) μ hf (Code.wp_mono (fun e a' w' q => ?_) hw) fun a w hJ => ?_
 ·cases e with
  | goto l' => exact ⟨q.1, q.2⟩
  | _ => exact q
 ·obtain ⟨⟨K, s', G', hK, hn, hr⟩, _⟩ := hμs a w hJ
  obtain ⟨m, hm', hw'⟩ := roundJ hI hd hLd hm hK hr hn
  refine wp_seq (wp_skip ?_)
  refine Code.wp_mono (fun e a' w' q => ?_) hw'
  cases e with
  | goto l' =>
    obtain ⟨e1, s2, G2, hn2, hr2⟩ := q
    have hj : Jn m a' w' := ⟨K, s2, G2, hK, hn2, hr2⟩
    have := (hμs a' w' ⟨m, hj⟩).2 m hj
    exact ⟨e1, ⟨m, hj⟩, by omega⟩
  | _ => exact q
theorem LoopsOK.loop_inv {c : Code} (h : LoopsOK X (.loop c)) {s : St} {R : Type} {k : Ex → St → Option R} {r : R} (hk : evCode X (.loop c) s k = some r) :
  ∃ n κ κb, loopN X (fun s k => evCode X c s k) c n s (fun ex s1 => k ex (clean κ κb s1)) = some r ∨ loopN X (fun s k => evCode X c s k) c n s k = some r := by
 simp only [evCode] at hk
 split at hk
 ·rename_i b alts ex s' hl
  cases b with
  | false => cases hk
  | true =>
    obtain ⟨n, κ, κb, hn⟩ := h.2 s alts ex s' hl R k r hk
    exact ⟨n, κ, κb, .inl hn⟩
 ·exact ⟨X.fuel, [], [], .inr hk⟩
theorem evCode_soundJ (hm : X.P.follows .mixedOrders = true) (hΓ : GamOK X.P X.gam) (hI : IdOK X B) : ∀ (c : Code), SoundJ g X B c ∧ ScopeJ g X B c := by
 intro c
 have noScope : ∀ {c : Code}, goodJ c = false → ScopeJ g X B c := by
  intro c h h'
  rw [h] at h'
  cases h'
 induction c with
 | skip =>
   refine ⟨fun R r _ s a w G Q k h hk hQ => ?_, noScope rfl⟩
   exact wp_skip (hQ .norm s a w G imgJ.norm h hk)
 | label l =>
   refine ⟨fun R r _ s a w G Q k h hk hQ => ?_, noScope rfl⟩
   exact wp_label (hQ .norm s a w G imgJ.norm h hk)
 | ret =>
   refine ⟨fun R r _ s a w G Q k h hk hQ => ?_, noScope rfl⟩
   exact wp_ret (hQ .ret s a w G imgJ.ret h hk)
 | exit id =>
   refine ⟨fun R r _ s a w G Q k h hk hQ => ?_, noScope rfl⟩
   obtain ⟨hi, e⟩ := okId_ev (g := g) (i := id) (c := .exit id) hk
   have e1 : unjump g false (.exit id) = .exit id := e
   rw [e1] at hk
   have := hQ (.exit id) s a w G (fun i hi' => by injection hi' with hi'; subst hi'; exact ⟨by omega, fun h => by omega⟩) h hk
   unfold exJ at this
   simp only [if_neg (show ¬ g < id by omega)] at this
   exact wp_exit this
 | goto l =>
   refine ⟨fun R r _ s a w G Q k h hk hQ => ?_, noScope rfl⟩
   have := hQ (.exit (l + g + 1)) s a w G (fun i hi' => by
    injection hi' with hi'
    subst hi'
    refine ⟨by omega, fun _ => ?_⟩
    simp only [gotosJ, List.mem_singleton]
    omega) h hk
   have e : exJ g (.exit (l + g + 1)) = .goto l := by
    show (if g < l + g + 1 then Exit.goto (l + g + 1 - g - 1) else Exit.exit (l + g + 1)) = Exit.goto l
    rw [if_pos (by omega), show l + g + 1 - g - 1 = l from by omega]
   rw [e] at this
   exact wp_goto this
 | seq x y ihx ihy =>
   refine ⟨fun R r hL s a w G Q k h hk hQ => ?_, ?_⟩
   ·refine wp_seq (ihx.1 R r hL.1 s a w G _ _ h hk fun ex s' a' w' G' hi h' hk' => ?_)
    cases ex with
    | norm => exact ihy.1 R r hL.2 s' a' w' G' Q k h' hk' fun ex s2 a2 w2 G2 hi2 h2 hk2 => hQ ex s2 a2 w2 G2 (hi2.mono fun x hx => by simp [gotosJ, hx]) h2 hk2
    | ret => exact hQ .ret s' a' w' G' imgJ.ret h' hk'
    | exit i =>
      have := hQ (.exit i) s' a' w' G' (hi.mono fun x hx => by simp [gotosJ, hx]) h' hk'
      unfold exJ at this ⊢
      by_cases hgi : g < i
      ·simp only [if_pos hgi] at this ⊢
       exact this
      ·simp only [if_neg hgi] at this ⊢
       exact this
   ·intro hgood
    by_cases hlab : ∃ l, x = .label l
    ·obtain ⟨l, rfl⟩ := hlab
     have hall : (gotosJ y).all (Nat.beq l) = true := hgood
     refine ⟨l, y, rfl, by simp [findLabel], ihy.1, fun hL => hL.1.1, hall, fun R r hL s a w G Q k h hev hK => ?_⟩
     have hL' : LoopsOK X (.loop (bodyJ g l y)) := hL
     have hev' : evCode X (.loop (bodyJ g l y)) s k = some r := hev
     have hLy : LoopsOK X (unjump g false y) := hL'.1.1
     refine wp_seq (wp_label ?_)
     obtain ⟨n, κ, κb, hn | hn⟩ := hL'.loop_inv hev'
     ·obtain ⟨m, _, hw⟩ := roundJ hI ihy.1 hLy hall (K := fun ex s1 => k ex (clean κ κb s1)) (fun ex s' a' w' G' hi h' hk' => hK ex _ a' w' G' hi (h'.clean κ κb) hk') h hn
      refine Code.wp_mono (fun e a' w' q => ?_) hw
      cases e with
      | goto l' =>
        obtain ⟨e1, s2, G2, hn2, hr2⟩ := q
        exact ⟨e1, m, _, s2, G2, fun ex s' a' w' G' hi h' hk' => hK ex _ a' w' G' hi (h'.clean κ κb) hk', hn2, hr2⟩
      | _ => exact q
     ·obtain ⟨m, _, hw⟩ := roundJ hI ihy.1 hLy hall (K := k) hK h hn
      refine Code.wp_mono (fun e a' w' q => ?_) hw
      cases e with
      | goto l' =>
        obtain ⟨e1, s2, G2, hn2, hr2⟩ := q
        exact ⟨e1, m, _, s2, G2, hK, hn2, hr2⟩
      | _ => exact q
    ·have e0 : unjump g true (.seq x y) = .seq (unjump g false x) (unjump g true y) := by
      cases x <;> first | rfl | exact absurd ⟨_, rfl⟩ hlab
     have e1 : headLab (.seq x y) = headLab y := by
      cases x <;> first | rfl | exact absurd ⟨_, rfl⟩ hlab
     have e2 : goodJ (.seq x y) = (fore x y && goodJ y) := by
      cases x <;> first | rfl | exact absurd ⟨_, rfl⟩ hlab
     rw [e2, Bool.and_eq_true] at hgood
     obtain ⟨hf, hgy⟩ := hgood
     obtain ⟨l, d, h1, h2, h3, h4, h5, h6⟩ := ihy.2 hgy
     unfold fore at hf
     rw [h1] at hf
     have hgx : gotosJ x = [] := by
      cases hq : gotosJ x with
      | nil => rfl
      | cons q qs => rw [hq] at hf; cases hf
     rw [hgx] at hf
     have hfx : findLabel x l = none := by
      cases hq : findLabel x l with
      | none => rfl
      | some q => simp only [hq] at hf; cases hf
     refine ⟨l, d, by rw [e1, h1], by simp only [findLabel, hfx, h2], h3, fun hL => h4 (by rw [e0] at hL; exact hL.2), h5, fun R r hL s a w G Q k h hev hK => ?_⟩
     rw [e0] at hL hev
     refine wp_seq (ihx.1 R r hL.1 s a w G _ _ h hev fun ex s' a' w' G' hi h' hk' => ?_)
     cases ex with
     | norm => exact h6 R r hL.2 s' a' w' G' Q k h' hk' hK
     | ret =>
       have := hK .ret s' a' w' G' (.inl imgJ.ret) h' hk'
       exact this
     | exit i =>
       rw [hgx] at hi
       have := hK (.exit i) s' a' w' G' (.inl hi) h' hk'
       have hne := (hi i rfl).1
       have hgi : ¬ g < i := fun hgi => by have := (hi i rfl).2 hgi; cases this
       unfold exL exJ at this
       unfold exJ
       simp only [if_neg hne, if_neg hgi] at this ⊢
       exact this
 | cond c x y ihx ihy =>
   refine ⟨fun R r hL s a w G Q k h hk hQ => ?_, noScope rfl⟩
   simp only [unjump, evCode] at hk
   split at hk
   ·rename_i b hb
    refine wp_cond (bool_evalA h hb) ?_
    cases b with
    | true => exact ihx.1 R r hL.1 s a w G Q k h hk fun ex s2 a2 w2 G2 hi2 h2 hk2 => hQ ex s2 a2 w2 G2 (hi2.mono fun x hx => by simp [gotosJ, hx]) h2 hk2
    | false => exact ihy.1 R r hL.2 s a w G Q k h hk fun ex s2 a2 w2 G2 hi2 h2 hk2 => hQ ex s2 a2 w2 G2 (hi2.mono fun x hx => by simp [gotosJ, hx]) h2 hk2
   ·cases hk
 | scope c ih =>
   refine ⟨fun R r hL s a w G Q k h hk hQ => ?_, noScope rfl⟩
   obtain ⟨hgood, e⟩ := okC_ev (b := goodJ c) (c := .block g (unjump g true c)) hk
   have e1 : unjump g false (.scope c) = .block g (unjump g true c) := e
   rw [e1] at hk hL
   simp only [evCode] at hk
   refine scope_wp hI ih.2 hgood hL h hk fun ex s' a' w' G' hi h' hk' => ?_
   cases ex with
   | norm => exact hQ .norm s' a' w' G' imgJ.norm h' hk'
   | ret => exact hQ .ret s' a' w' G' imgJ.ret h' hk'
   | exit i =>
     simp only at hk'
     cases hb : Nat.beq i g with
     | true =>
       rw [hb] at hk'
       have := Nat.eq_of_beq_eq_true hb
       subst this
       have := hQ .norm s' a' w' G' imgJ.norm h' hk'
       unfold exL
       simp only [if_true]
       exact this
     | false =>
       rw [hb] at hk'
       have hne : i ≠ g := fun e => by subst e; simp at hb
       rcases hi with hi | hi
       ·have := hQ (.exit i) s' a' w' G' (hi.mono fun x hx => by cases hx) h' hk'
        unfold exL
        simp only [if_neg hne]
        exact this
       ·injection hi with hi
        exact absurd hi hne
 | block id c ih =>
   refine ⟨fun R r hL s a w G Q k h hk hQ => ?_, noScope rfl⟩
   obtain ⟨hi, e⟩ := okId_ev (g := g) (i := id) (c := .block id (unjump g false c)) hk
   have e1 : unjump g false (.block id c) = .block id (unjump g false c) := e
   rw [e1] at hk hL
   refine wp_block (ih.1 R r hL s a w G _ _ h hk fun ex s' a' w' G' hi' h' hk' => ?_)
   cases ex with
   | norm => exact hQ .norm s' a' w' G' imgJ.norm h' hk'
   | ret => exact hQ .ret s' a' w' G' imgJ.ret h' hk'
   | exit i =>
     simp only at hk'
     cases hb : Nat.beq i id with
     | true =>
       rw [hb] at hk'
       have := Nat.eq_of_beq_eq_true hb
       subst this
       have := hQ .norm s' a' w' G' imgJ.norm h' hk'
       unfold exJ
       simp only [if_neg (show ¬ g < i by omega)]
       show (if i = i then Q .normal a' w' else Q (.exit i) a' w')
       rw [if_pos rfl]
       exact this
     | false =>
       rw [hb] at hk'
       have hne : i ≠ id := fun e => by subst e; simp at hb
       have := hQ (.exit i) s' a' w' G' hi' h' hk'
       unfold exJ at this ⊢
       by_cases hgi : g < i
       ·simp only [if_pos hgi] at this ⊢
        exact this
       ·simp only [if_neg hgi] at this ⊢
        show (if i = id then Q .normal a' w' else Q (.exit i) a' w')
        rw [if_neg hne]
        exact this
 | loop body ih =>
   refine ⟨fun R r hL s a w G Q k h hk hQ => ?_, noScope rfl⟩
   have hgo : ∀ (k' : Ex → St → Option R), (∀ ex s' a' w' G', imgJ g (gotosJ body) ex → Rel B s' a' w' G' → k' ex s' = some r → Q (exJ g ex) a' w') → ∀ n, loopN X (fun s k => evCode X (unjump g false body) s k) (unjump g false body) n s k' = some r → (Code.loop body).wp X.P Q a w := by
    intro k' hQ n hn
    refine wp_loop_count (fun n a w => ∃ s G, loopN X (fun s k => evCode X (unjump g false body) s k) (unjump g false body) n s k' = some r ∧ Rel B s a w G) (n := n) ⟨s, G, hn, h⟩ fun n a w ⟨s, G, hn, h⟩ => ?_
    cases n with
    | zero => cases hn
    | succ m =>
      obtain ⟨G1, h1⟩ := h.mask (X := X) hI.m (unjump g false body)
      refine ⟨m, rfl, ih.1 R r hL.1 _ a w G1 _ _ h1 hn fun ex s' a' w' G' hi h' hk' => ?_⟩
      cases ex with
      | norm => exact ⟨s', G', hk', h'⟩
      | ret => exact hQ .ret s' a' w' G' imgJ.ret h' hk'
      | exit i =>
        have := hQ (.exit i) s' a' w' G' hi h' hk'
        unfold exJ at this ⊢
        by_cases hgi : g < i
        ·simp only [if_pos hgi] at this ⊢
         exact this
        ·simp only [if_neg hgi] at this ⊢
         exact this
   obtain ⟨n, κ, κb, hn | hn⟩ := LoopsOK.loop_inv (c := unjump g false body) hL hk
   ·exact hgo _ (fun ex s' a' w' G' hi h' hk' => hQ ex _ a' w' G' hi (h'.clean κ κb) hk') n hn
   ·exact hgo k hQ n hn
 | region id ops dr =>
   refine ⟨fun R r _ s a w G Q k h hk hQ => ?_, noScope rfl⟩
   exact evCode_sound hm hΓ hI (.region id ops dr) trivial s a w G Q (fun ex s' => match ex with
    | .norm => k .norm s'
    | _ => none) h (by
      rw [← hk]
      simp only [unjump, evCode]) fun ex s' a' w' G' h' hk' => by
    cases ex with
    | norm => exact hQ .norm s' a' w' G' imgJ.norm h' hk'
    | ret => cases hk'
    | exit i => cases hk'
 | _ => refine ⟨fun R r _ s a w G Q k h hk hQ => ?_, noScope rfl⟩; simp [unjump, evCode] at hk
def g0 : Nat := 1048576
def unj (fn : Func) : Func := { fn with body := fn.body.map (unjump g0 false) }
section
variable {X : Cfg}
theorem fnOK_ofJ (hm : X.P.follows .mixedOrders = true) (hΓ : GamOK X.P X.gam) (hids : ∀ d q, X.idOf d = some q → X.m ≤ q) (halts : ∀ d q, X.alt d = some q → X.m ≤ q) {f : FuncId} {fn : Func} {T0 : List AV} {C0 : List Blk} {r : AV} {outs : List Blk} (hf : X.P.funcs[f]? = some fn) (hL : ∀ c, (unj fn).body = some c → LoopsOK X c) (hXm : X.m = C0.length)
  (hev : evFun X (unj fn) T0 C0 = some (r, outs)) : FnOK X.P f T0 C0 r outs := by
 intro B vals w G h0 hw0 hown hBm hnm
 unfold evFun at hev
 cases hb : fn.body with
 | none => simp only [unj, hb, Option.map_none] at hev; cases hev
 | some c =>
   have hb' : (unj fn).body = some (unjump g0 false c) := by simp only [unj, hb, Option.map_some]
   rw [hb'] at hev
   simp only at hev
   have hI : IdOK X B := ⟨by rw [hBm, hXm], hids, halts⟩
   have hlen : T0.length = vals.size := h0.len
   have hin : Rel B (initS X fn T0 C0) { tmps := vals ++ Array.replicate (fn.ntmps - vals.size) undef, defers := [] } w G := by
    refine ⟨rfl, by simp [initS, hlen], fun i x v hx hv => ?_, fun d k hk => ?_, h0.os, h0.tape, h0.output, h0.size, h0.par, h0.old, h0.nl⟩
    ·simp only [initS] at hx
     by_cases hi : i < T0.length
     ·rw [List.getElem?_append_left hi] at hx
      replace hv : (vals ++ Array.replicate (fn.ntmps - vals.size) undef)[i]? = some v := hv
      rw [Array.getElem?_append_left (by omega)] at hv
      exact h0.vt i x v hx hv
     ·rw [List.getElem?_append_right (by omega), List.getElem?_replicate] at hx
      split at hx
      ·injection hx with hx
       subst hx
       exact .junk _ _
      ·cases hx
    ·simp only [initS] at hk
     by_cases hi : d < C0.length
     ·rw [List.getElem?_append_left hi] at hk
      exact h0.vb d k hk
     ·rw [List.getElem?_append_right (by omega), List.getElem?_replicate] at hk
      split at hk
      ·injection hk with hk
       subst hk
       trivial
      ·cases hk
   refine calls_of_wp hf hb ((evCode_soundJ (g := g0) hm hΓ hI c).1 _ _ (hL _ hb') _ _ w G _ _ hin hev fun ex s' a' w' G' _ h hk => ?_)
   have hk' : finS X s' fn = some (r, outs) := by
    cases ex with
    | norm => exact hk
    | ret => exact hk
    | exit i => cases hk
   have goal : a'.defers = [] ∧ ∃ v, (results fn a'.tmps).run X.P w' = .ok v w' ∧ ∃ v' G', Ending.returned v = .returned v' ∧ Rel B ⟨[r], outs⟩ { tmps := #[v'], defers := [] } w' G' := by
    unfold finS at hk'
    cases hr : resA X s' fn.results.toList with
    | none => rw [hr] at hk'; cases hk'
    | some r' =>
      rw [hr] at hk'
      dsimp only at hk'
      generalize hκ : reach s'.C (X.m + s'.C.length * s'.C.length + 64) (List.range X.m ++ r'.refs) [] = κ at hk'
      split at hk'
      ·rename_i hcond
       simp only [Bool.and_eq_true, List.all_eq_true, List.mem_range, Nat.beq_eq, Nat.blt_eq] at hcond
       obtain ⟨hsub, hclo, hnd, hpar⟩ := hcond
       have hsub := subL_spec hsub
       have hnd := nodupL_spec hnd
       have hclo : ∀ q ∈ κ, ∀ r ∈ (s'.c q).refs, r ∈ κ := by
        intro q hq
        have := List.all_eq_true.1 hclo q hq
        simp only [Bool.and_eq_true] at this
        exact subL_spec this.1
       injection hk' with hk'
       injection hk' with h1 h2
       subst h1 h2
       obtain ⟨v, hrun, hV⟩ := res_val h hr
       refine ⟨h.defers, v, hrun, v, inG G' κ [], rfl, rfl, rfl, fun i x u hx hu => ?_, fun j k hk => ?_, h.os, h.tape, h.output, h.size, fun k hk => ?_, fun b hb hn => ?_, fun b hb => h.nl b ?_⟩
       ·cases i with
        | zero =>
          simp at hx hu
          subst hx hu
          exact hV.ren (in_stay G' w' κ []) _ fun q hq => in_nm (hsub q hq)
        | succ i => simp at hx
       ·replace hk : (κ.map fun q => (s'.C.getD q .dead).ren (ixOf κ))[j]? = some k := hk
        rw [List.getElem?_map] at hk
        cases hj : κ[j]? with
        | none => rw [hj] at hk; cases hk
        | some q =>
          rw [hj] at hk
          injection hk with hk
          subst hk
          have hjl := (List.getElem?_eq_some_iff.1 hj).1
          have hjq := (List.getElem?_eq_some_iff.1 hj).2
          have h9 := BlkOK.into (lent := []) h hnd hjl (hclo _ (List.getElem_mem hjl))
          rw [hjq] at h9
          exact h9
       ·have hkm : k < X.m := by rw [← hI.m]; exact hk
        obtain ⟨h3, h4⟩ := hpar k hkm
        show G'.nm (κ.getD k 0) = _
        rw [show κ.getD k 0 = k from h3]
        exact h.par k hk
       ·obtain ⟨h3, h4⟩ := h.old b hb hn
        refine ⟨?_, h4⟩
        show inOwn G' κ [] b = _
        unfold inOwn
        rw [h3]
        cases hO : B.own0 b with
        | box j => exact absurd hO (hn j)
        | imm => rfl
        | lent => rfl
        | ext => rfl
       ·replace hb : inOwn G' κ [] b = .lent := hb
        unfold inOwn at hb
        split at hb
        ·split at hb
         ·cases hb
         ·simp at hb
        ·exact hb
      ·cases hk'
   cases ex with
   | norm => exact goal
   | ret => exact goal
   | exit i => cases hk
end
end
def unjIf (fn : Func) : Func :=
 match fn.body with
 | some c => match hasGo c with
   | true => unj fn
   | false => fn
 | none => fn
def gamJ (P : Program) (t : Tab) (fuel : Nat) (spec : Gam) : Nat → Gam
 | 0 => spec
 | d + 1 => fun f T0 C0 => match spec f T0 C0 with
   | some r => some r
   | none => match P.funcs[f]? with
     | some fn => roM (t.ro f) C0 (fin P (t.frz f) C0.length fn.resultTypes.toList (evFun (cfg P t fuel (gamJ P t fuel spec d) noLsp f C0.length fn.ntmps) (unjIf fn) T0 C0))
     | none => none
section
variable {P : Program}
theorem fn_okJ (hm : P.follows .mixedOrders = true) (hp : plainNames P = true) {t : Tab} {fuel : Nat} {gam : Gam} {lsp : Lsp} (hΓ : GamOK P gam) {f : FuncId} {fn : Func} (hf : P.funcs[f]? = some fn) {T0 : List AV} {C0 : List Blk} {r : AV} {outs : List Blk}
  (hL : ∀ c, (unj fn).body = some c → LoopsOK (cfg P t fuel gam lsp f C0.length (unj fn).ntmps) c) (h : evFun (cfg P t fuel gam lsp f C0.length (unj fn).ntmps) (unj fn) T0 C0 = some (r, outs)) : Enters P f ∧ FnOK P f T0 C0 r outs := by
 have hb : fn.body.isNone = false := by
  cases hb : fn.body with
  | none => unfold evFun at h; simp only [unj, hb, Option.map_none] at h; cases h
  | some c => rfl
 have hn : (fn.name == "runtime.NumGoroutine") = false := by
  have := List.all_eq_true.1 hp fn (by
   have := Array.mem_of_getElem? hf
   exact Array.mem_toList_iff.2 this)
  simpa using this
 exact ⟨enters_of hf hn hb, fnOK_ofJ (X := cfg P t fuel gam lsp f C0.length fn.ntmps) hm hΓ cfg_ids cfg_alts hf hL rfl h⟩
theorem gamJ_ok (hm : P.follows .mixedOrders = true) (hp : plainNames P = true) {t : Tab} {fuel : Nat} {spec : Gam} (hs : GamOK P spec) : ∀ d, GamOK P (gamJ P t fuel spec d) := by
 intro d
 induction d with
 | zero => exact hs
 | succ d ih =>
   intro f T0 C0 r outs h
   unfold gamJ at h
   cases hsp : spec f T0 C0 with
   | some x =>
     rw [hsp] at h
     injection h with h
     subst h
     exact hs f T0 C0 _ _ hsp
   | none =>
     rw [hsp] at h
     simp only at h
     cases hf : P.funcs[f]? with
     | none => rw [hf] at h; cases h
     | some fn =>
       rw [hf] at h
       simp only at h
       cases hev : evFun (cfg P t fuel (gamJ P t fuel spec d) noLsp f C0.length fn.ntmps) (unjIf fn) T0 C0 with
       | none => rw [hev] at h; exact absurd h (by cases t.ro f <;> exact fun h => nomatch h)
       | some x =>
         obtain ⟨r0, outs0⟩ := x
         rw [hev] at h
         by_cases hj : unjIf fn = unj fn
         ·rw [hj] at hev
          obtain ⟨h1, h2⟩ := fn_okJ hm hp ih hf (fun c _ => LoopsOK.none (fun _ _ => rfl) c) hev
          exact ⟨h1, roM_ok (fun r o h => h2.fin h) h⟩
         ·have hj' : unjIf fn = fn := by
           unfold unjIf at hj ⊢
           split
           ·rename_i c hc
            rw [hc] at hj
            simp only at hj
            cases hg : hasGo c with
            | true => rw [hg] at hj; exact absurd rfl hj
            | false => rfl
           ·rfl
          rw [hj'] at hev
          obtain ⟨h1, h2⟩ := fn_ok hm hp ih hf (fun c _ => LoopsOK.none (fun _ _ => rfl) c) hev
          exact ⟨h1, roM_ok (fun r o h => h2.fin h) h⟩
end
end Go.Proofs.Gv
