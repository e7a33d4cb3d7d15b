import Derived.Test.YthnbpgiohimkoaaPw29
set_option linter.unusedVariables false
namespace Go.Proofs.Gv
section
variable {P : Program} {f : FuncId} {zs : List Kd}
theorem nilRow {B : Bs} {v : Value} {w : World} {G : Gh} (hz : 0 < zs.length) (hm : B.m = 0) (h : Rel B ⟨[.nil], []⟩ { tmps := #[v], defers := [] } w G) : ∃ G', Rel B ⟨[.rf 0 zs], [.row zs []]⟩ { tmps := #[v], defers := [] } w G' := by
 have h1 : Rel B ⟨[.nil], [.dead]⟩ { tmps := #[v], defers := [] } w G := ⟨h.defers, h.len, h.vt, fun d k hk => by
  cases d with
  | zero => simp at hk; subst hk; trivial
  | succ d => simp at hk, h.os, h.tape, h.output, h.size, h.par, h.old, h.nl⟩
 obtain ⟨G', h2⟩ := h1.asRow (i := 0) (q := 0) (zs := zs) hz (by omega) rfl (fun v' hv' => by
  have e : v' = v := by simpa using hv'.symm
  subst e
  have := h.vt 0 .nil v' rfl rfl
  exact ⟨none, this.nil_inv⟩)
 exact ⟨G', h2⟩
theorem clone_ok (hz : 0 < zs.length) (h1 : FnOK P f [.nil] [] .nil []) {es es' : List (List AV)} (he : es = [] → es' = []) (h2 : FnOK P f [.sl .nn zs es] [] (.rf 0 zs) [.row zs es']) (t : Tk) : FnOK P f [.sl t zs es] [] (.rf 0 zs) [.row zs es'] := by
 intro B vals w G hr e0 e1 e2 e3
 have hs : vals.size = 1 := hr.len.symm
 obtain ⟨v0, hv0⟩ : ∃ v, vals[0]? = some v := ⟨vals[0], Array.getElem?_eq_getElem (by omega)⟩
 have hv := hr.vt 0 _ v0 rfl hv0
 have mk : ∀ x, V G w true x v0 → Rel B ⟨[x], []⟩ { tmps := vals, defers := [] } w G := fun x hx => ⟨hr.defers, hr.len, fun i y v hy hv' => by
  cases i with
  | zero =>
    simp at hy
    subst hy
    have : v = v0 := by
     have h3 : vals[0]? = some v := hv'
     rw [hv0] at h3
     injection h3 with h3
     exact h3.symm
    subst this
    exact hx
  | succ i => simp at hy, fun d k hk => by simp at hk, hr.os, hr.tape, hr.output, hr.size, hr.par, hr.old, hr.nl⟩
 cases hv with
 | slnil _ _ _ A c hA hm hn =>
   by_cases hAn : A = none
   ·have hc := hA hAn
    subst hAn hc
    rw [he rfl]
    refine (h1 B vals w G (mk .nil (.nil true)) e0 e1 e2 e3).mono fun e w' ⟨v, G', hx, hr2⟩ => ?_
    obtain ⟨G'', hr3⟩ := nilRow hz e2 hr2
    exact ⟨v, G'', hx, hr3⟩
   ·exact h2 B vals w G (mk _ (.slnil true .nn zs A c hA hm fun _ => hAn)) e0 e1 e2 e3
 | sl _ _ _ _ b o c u hr' hc hm hb hi hsz hcell h =>
   refine h2 B vals w G (mk _ (.sl true .nn zs es b o c u (fun h => by cases h) hc hm hb ?_ hsz hcell h)) e0 e1 e2 e3
   rcases hi with hi | ⟨_, hi⟩
   ·exact .inl hi
   ·exact .inr ⟨by decide, hi⟩
end
end Go.Proofs.Gv
