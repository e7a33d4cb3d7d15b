import Derived.Test.YthnbpgiohimkoaaPw24
import Derived.Laws.Sem
set_option linter.unusedVariables false
namespace Go.Proofs.Gv
open Go.RowKit
section
variable {X : Cfg} {B : Bs} {s s' : St} {a : Act} {w : World} {G : Gh} {o : Oper} {u : List Wr} {K : Act → World → Prop} {Q : Exit → Act → World → Prop} {P : Program}
def resF (tmps : Array Value) : ResultVar → Sem Value
 | .tmp t => pure (tmps.getD t undef)
 | .cell a t => do loadVar t (← asAddr (tmps.getD a undef))
theorem mapM_run {α β : Type} (f : α → Sem β) (w : World) : ∀ (l : List α) (vs : List β), l.length = vs.length → (∀ (i : Nat) (x : α) (v : β), l[i]? = some x → vs[i]? = some v → (f x).run P w = .ok v w) → (l.mapM f).run P w = .ok vs w := by
 intro l
 induction l with
 | nil => intro vs h _; cases vs <;> simp at h ⊢
 | cons x l ih =>
   intro vs h hr
   cases vs with
   | nil => simp at h
   | cons v vs =>
     have h1 := hr 0 x v (by simp) (by simp)
     have h2 := ih vs (by simpa using h) fun i x v hx hv => hr (i + 1) x v (by simpa using hx) (by simpa using hv)
     rw [List.mapM_cons, Sem.run_bind, h1]
     simp only [Result.andThen_ok]
     rw [Sem.run_bind, h2]
     rfl
def packV : List Value → Value
 | [v] => v
 | vs => .tuple vs.toArray
theorem results_run {fn : Func} {tmps : Array Value} {vs : List Value} (h : (fn.results.toList.mapM (resF tmps)).run P w = .ok vs w) :
  (results fn tmps).run P w = .ok (packV vs) w := by
 have h0 : (fn.results.mapM (resF tmps)).run P w = .ok vs.toArray w := by
  rw [Array.mapM_eq_mapM_toList, Sem.run_map, h]
  rfl
 have h1 : results fn tmps = (do
  let vs ← fn.results.mapM (resF tmps)
  pure (if h : vs.size = 1 then vs[0] else .tuple vs)) := rfl
 rw [h1, Sem.run_bind, h0]
 simp only [Result.andThen_ok, Sem.run_pure]
 congr 1
 match vs with
 | [] => rfl
 | [v] => rfl
 | v :: v' :: l => simp [packV]
theorem res_one (h : Rel B s a w G) {rv : ResultVar} {x : AV} (hr : resOf X s rv = some x) : ∃ v, (resF a.tmps rv).run X.P w = .ok v w ∧ V G w true x v := by
 cases rv with
 | tmp t =>
   injection hr with hr
   subst hr
   exact ⟨_, rfl, h.slot t⟩
 | cell t ty =>
   simp only [resOf] at hr
   split at hr
   ·rename_i ag n hag hn
    split at hr
    ·rename_i xs hxs
     obtain ⟨b, off, uu, hv, hl, hcell⟩ := cellsAt_ok h hxs (h.slot t)
     obtain ⟨v, h1, h2⟩ := load_run (P := X.P) hag hn hr hl hcell
     refine ⟨v, ?_, h2⟩
     simp only [resF]
     rw [hv]
     have h3 : (Instr.loadAt ty (.pointer (some ⟨b, off, none⟩))).run X.P w = (loadVar ty ⟨b, off, none⟩).run X.P w := by
      simp [Instr.loadAt, Instr.sureAddr]
     rw [h3] at h1
     simp [asAddr, h1]
    ·cases hr
   ·cases hr
theorem res_all (h : Rel B s a w G) : ∀ (rs : List ResultVar) (l : List AV), ress X s rs = some l → ∃ vs : List Value, rs.length = vs.length ∧ l.length = vs.length ∧ (∀ (i : Nat) (rv : ResultVar) (v : Value), rs[i]? = some rv → vs[i]? = some v → (resF a.tmps rv).run X.P w = .ok v w) ∧ ∀ (i : Nat) (x : AV) (v : Value), l[i]? = some x → vs[i]? = some v → V G w true x v := by
 intro rs
 induction rs with
 | nil => intro l hl; simp [ress] at hl; subst hl; exact ⟨[], rfl, rfl, by simp, by simp⟩
 | cons r rs ih =>
   intro l hl
   unfold ress at hl
   split at hl
   ·rename_i x l' h1 h2
    injection hl with hl
    subst hl
    obtain ⟨v, h3, h4⟩ := res_one h h1
    obtain ⟨vs, h5, h6, h7, h8⟩ := ih l' h2
    refine ⟨v :: vs, by simp [h5], by simp [h6], fun i rv u hi hu => ?_, fun i y u hi hu => ?_⟩
    ·cases i with
     | zero => simp at hi hu; subst hi hu; exact h3
     | succ i => exact h7 i rv u (by simpa using hi) (by simpa using hu)
    ·cases i with
     | zero => simp at hi hu; subst hi hu; exact h4
     | succ i => exact h8 i y u (by simpa using hi) (by simpa using hu)
   ·cases hl
theorem res_val (h : Rel B s a w G) {fn : Func} {r : AV} (hr : resA X s fn.results.toList = some r) : ∃ v, (results fn a.tmps).run X.P w = .ok v w ∧ V G w true r v := by
 unfold resA at hr
 split at hr
 ·rename_i x hl
  injection hr with hr
  subst hr
  obtain ⟨vs, h1, h2, h3, h4⟩ := res_all h _ _ hl
  have h5 := results_run (P := X.P) (w := w) (fn := fn) (tmps := a.tmps) (mapM_run (P := X.P) (resF a.tmps) w fn.results.toList vs h1 h3)
  obtain ⟨v, rfl⟩ : ∃ v, vs = [v] := by
   match vs, h2 with
   | [v], _ => exact ⟨v, rfl⟩
  exact ⟨v, h5, h4 0 x v rfl rfl⟩
 ·rename_i l hl hne
  injection hr with hr
  subst hr
  obtain ⟨vs, h1, h2, h3, h4⟩ := res_all h _ _ hne
  have h5 := results_run (P := X.P) (w := w) (fn := fn) (tmps := a.tmps) (mapM_run (P := X.P) (resF a.tmps) w fn.results.toList vs h1 h3)
  have h6 : packV vs = .tuple vs.toArray := by
   match vs, h2 with
   | [], _ => rfl
   | [v], h2 =>
     exfalso
     match l, h2 with
     | [x], _ => exact hl x rfl
   | v :: v' :: l', _ => rfl
  rw [h6] at h5
  refine ⟨_, h5, .tup _ _ _ (by simpa using h2) fun i x v hx hv => h4 i x v hx (by simpa using hv)⟩
 ·cases hr
theorem fnOK_of (hm : X.P.follows .mixedOrders = true) (hΓ : GamOK X.P X.gam) (hids : ∀ d q, X.idOf d = some q → X.m ≤ q) (halts : ∀ d q, X.alt d = some q → X.m ≤ q) {f : FuncId} {fn : Func} {T0 : List AV} {C0 : List Blk} {r : AV} {outs : List Blk} (hf : X.P.funcs[f]? = some fn) (hL : ∀ c, fn.body = some c → LoopsOK X c) (hXm : X.m = C0.length)
  (hev : evFun X fn T0 C0 = some (r, outs)) : FnOK X.P f T0 C0 r outs := by
 intro B vals w G h0 hw0 hown hBm hnm
 unfold evFun at hev
 cases hb : fn.body with
 | none => rw [hb] at hev; cases hev
 | some c =>
   rw [hb] at hev
   simp only at hev
   have hI : IdOK X B := ⟨by rw [hBm, hXm], hids, halts⟩
   have hlen : T0.length = vals.size := h0.len
   have hin : Rel B (initS X fn T0 C0) { tmps := vals ++ Array.replicate (fn.ntmps - vals.size) undef, defers := [] } w G := by
    refine ⟨rfl, by simp [initS, hlen], fun i x v hx hv => ?_, fun d k hk => ?_, h0.os, h0.tape, h0.output, h0.size, h0.par, h0.old, h0.nl⟩
    ·simp only [initS] at hx
     by_cases hi : i < T0.length
     ·rw [List.getElem?_append_left hi] at hx
      replace hv : (vals ++ Array.replicate (fn.ntmps - vals.size) undef)[i]? = some v := hv
      rw [Array.getElem?_append_left (by omega)] at hv
      exact h0.vt i x v hx hv
     ·rw [List.getElem?_append_right (by omega), List.getElem?_replicate] at hx
      split at hx
      ·injection hx with hx
       subst hx
       exact .junk _ _
      ·cases hx
    ·simp only [initS] at hk
     by_cases hi : d < C0.length
     ·rw [List.getElem?_append_left hi] at hk
      exact h0.vb d k hk
     ·rw [List.getElem?_append_right (by omega), List.getElem?_replicate] at hk
      split at hk
      ·injection hk with hk
       subst hk
       trivial
      ·cases hk
   refine calls_of_wp hf hb (evCode_sound hm hΓ hI c (hL c hb) _ _ w G _ _ hin hev fun ex s' a' w' G' h hk => ?_)
   have hk' : finS X s' fn = some (r, outs) := by
    cases ex with
    | norm => exact hk
    | ret => exact hk
    | exit i => cases hk
   have goal : a'.defers = [] ∧ ∃ v, (results fn a'.tmps).run X.P w' = .ok v w' ∧ ∃ v' G', Ending.returned v = .returned v' ∧ Rel B ⟨[r], outs⟩ { tmps := #[v'], defers := [] } w' G' := by
    unfold finS at hk'
    cases hr : resA X s' fn.results.toList with
    | none => rw [hr] at hk'; cases hk'
    | some r' =>
      rw [hr] at hk'
      dsimp only at hk'
      generalize hκ : reach s'.C (X.m + s'.C.length * s'.C.length + 64) (List.range X.m ++ r'.refs) [] = κ at hk'
      split at hk'
      ·rename_i hcond
       simp only [Bool.and_eq_true, List.all_eq_true, List.mem_range, Nat.beq_eq, Nat.blt_eq] at hcond
       obtain ⟨hsub, hclo, hnd, hpar⟩ := hcond
       have hsub := subL_spec hsub
       have hnd := nodupL_spec hnd
       have hclo : ∀ q ∈ κ, ∀ r ∈ (s'.c q).refs, r ∈ κ := by
        intro q hq
        have := List.all_eq_true.1 hclo q hq
        simp only [Bool.and_eq_true] at this
        exact subL_spec this.1
       injection hk' with hk'
       injection hk' with h1 h2
       subst h1 h2
       obtain ⟨v, hrun, hV⟩ := res_val h hr
       refine ⟨h.defers, v, hrun, v, inG G' κ [], rfl, rfl, rfl, fun i x u hx hu => ?_, fun j k hk => ?_, h.os, h.tape, h.output, h.size, fun k hk => ?_, fun b hb hn => ?_, fun b hb => h.nl b ?_⟩
       ·cases i with
        | zero =>
          simp at hx hu
          subst hx hu
          exact hV.ren (in_stay G' w' κ []) _ fun q hq => in_nm (hsub q hq)
        | succ i => simp at hx
       ·replace hk : (κ.map fun q => (s'.C.getD q .dead).ren (ixOf κ))[j]? = some k := hk
        rw [List.getElem?_map] at hk
        cases hj : κ[j]? with
        | none => rw [hj] at hk; cases hk
        | some q =>
          rw [hj] at hk
          injection hk with hk
          subst hk
          have hjl := (List.getElem?_eq_some_iff.1 hj).1
          have hjq := (List.getElem?_eq_some_iff.1 hj).2
          have h9 := BlkOK.into (lent := []) h hnd hjl (hclo _ (List.getElem_mem hjl))
          rw [hjq] at h9
          exact h9
       ·have hkm : k < X.m := by rw [← hI.m]; exact hk
        obtain ⟨h3, h4⟩ := hpar k hkm
        show G'.nm (κ.getD k 0) = _
        rw [show κ.getD k 0 = k from h3]
        exact h.par k hk
       ·obtain ⟨h3, h4⟩ := h.old b hb hn
        refine ⟨?_, h4⟩
        show inOwn G' κ [] b = _
        unfold inOwn
        rw [h3]
        cases hO : B.own0 b with
        | box j => exact absurd hO (hn j)
        | imm => rfl
        | lent => rfl
        | ext => rfl
       ·replace hb : inOwn G' κ [] b = .lent := hb
        unfold inOwn at hb
        split at hb
        ·split at hb
         ·cases hb
         ·simp at hb
        ·exact hb
      ·cases hk'
   cases ex with
   | norm => exact goal
   | ret => exact goal
   | exit i => cases hk
end
end Go.Proofs.Gv
