/-
A function's code, cut at a region: what lies ahead, and the rest from the state that is reached.
-/
import Derived.Test.YtndephedgodneaaGwF
namespace Go.Proofs.Gv
/-- The code ahead of a region, and the rest. -/
def cutC (i : Nat) : Code → Option (Code × Code)
  | .region id ops dr => match Nat.beq id i with
    | true => some (.skip, .region id ops dr)
    | false => none
  | .seq a b => match cutC i a with
    | some (p, q) => some (p, .seq q b)
    | none => match cutC i b with
      | some (p, q) => some (.seq a p, q)
      | none => none
  | _ => none
def preC (i : Nat) (fn : Func) : Code :=
  match cutC i (bodyOf fn) with
  | some (p, _) => p
  | none => .skip
def sufC (i : Nat) (fn : Func) : Code :=
  match cutC i (bodyOf fn) with
  | some (_, q) => q
  | none => .skip
section
variable {X : Cfg}
theorem cut_ev {i : Nat} : ∀ {c p q : Code}, cutC i c = some (p, q) → ∀ {R : Type} (s : St) (k : Ex → St → Option R), evCode X c s k = evCode X p s (fun ex s' => match ex with
    | .norm => evCode X q s' k
    | .ret => k .ret s'
    | .exit j => k (.exit j) s') := by
  intro c
  induction c with
  | region id ops dr =>
    intro p q h R s k
    unfold cutC at h
    split at h
    · injection h with h
      injection h with h1 h2
      subst h1 h2
      rfl
    · cases h
  | seq a b iha ihb =>
    intro p q h R s k
    unfold cutC at h
    split at h
    · rename_i p' q' ha
      injection h with h
      injection h with h1 h2
      subst h1 h2
      show evCode X a s _ = _
      rw [iha ha]
      refine congrArg (evCode X p' s) ?_
      funext ex s'
      cases ex <;> rfl
    · split at h
      · rename_i p' q' hb
        injection h with h
        injection h with h1 h2
        subst h1 h2
        show evCode X a s _ = evCode X a s _
        congr 1
        funext ex s'
        cases ex with
        | norm => exact ihb hb s' k
        | ret => rfl
        | exit j => rfl
      · cases h
  | _ => intro p q h; cases h
/-- How a function ends. -/
def endK (X : Cfg) (fn : Func) : Ex → St → Option (AV × List Blk) := fun ex s => match ex with
  | .norm => finS X s fn
  | .ret => finS X s fn
  | .exit _ => none
theorem evFun_cut {fn : Func} {c : Code} {i : Nat} {T0 : List AV} {C0 : List Blk} {b : Bool} {T : List AV} {C : List Blk} (hb : fn.body = some c) (hc : (cutC i (bodyOf fn)).isSome = true)
    (hp : evCode X (preC i fn) (initS X fn T0 C0) (fun ex s => some (ex, s.T, s.C)) = bif b then some (.norm, T, C) else none) :
    evFun X fn T0 C0 = bif b then evCode X (sufC i fn) ⟨T, C⟩ (endK X fn) else none := by
  have hbo : bodyOf fn = c := by unfold bodyOf; rw [hb]; rfl
  unfold preC at hp
  unfold sufC
  rw [hbo] at hc hp ⊢
  cases hq : cutC i c with
  | none => rw [hq] at hc; cases hc
  | some pq =>
    obtain ⟨p, q⟩ := pq
    rw [hq] at hp
    simp only at hp ⊢
    have e : evFun X fn T0 C0 = evCode X c (initS X fn T0 C0) (endK X fn) := by
      unfold evFun
      rw [hb]
      rfl
    rw [e, cut_ev hq, evCode_bind]
    rw [evCode_bind] at hp
    cases hr : evCode X p (initS X fn T0 C0) fun ex s' => some (ex, s') with
    | none =>
      rw [hr] at hp
      cases b with
      | false => rfl
      | true => cases hp
    | some es =>
      obtain ⟨ex, s⟩ := es
      rw [hr] at hp
      simp only [Option.bind_some] at hp ⊢
      cases b with
      | false => cases hp
      | true =>
        rw [cond_true] at hp ⊢
        injection hp with hp
        injection hp with h1 h2
        injection h2 with h2 h3
        subst h1
        rw [← h2, ← h3]
end
end Go.Proofs.Gv
