import Derived.Test.YthnbpgiohimkoaaPw25
set_option linter.unusedVariables false
namespace Go.Proofs.Gv
open Go.RowKit
structure Tab where
 idOf : FuncId → Nat → Option Nat
 alt : FuncId → Nat → Option Nat
 rid : FuncId → Nat → List Nat
 byref : FuncId → Bool
 frz : FuncId → Bool
 keep : FuncId → Nat → Option (List Nat × List Nat × List Nrm)
 join : FuncId → Nat → Option (List Nat)
 nid : FuncId → Nat
 pre : FuncId → Nat → List Nrm
 ro : FuncId → Bool := fun _ => false
def offN (m : Nat) : Nrm → Nrm
 | .slot i q zs => .slot i (m + q) zs
 | .cell b off q zs => .cell (m + b) off (m + q) zs
 | .ren q2 q1 => .ren (m + q2) (m + q1)
 | .frz i q => .frz i (m + q)
 | .cimm b off zs => .cimm (m + b) off zs
 | .pcell b off q zs => .cell b off (m + q) zs
 | .simm i zs => .simm i zs
 | .adv i q zs => .adv i (m + q) zs
 | .abs b q2 q ex => .abs b (m + q2) (m + q) ex
 | .pren b q1 => .ren b (m + q1)
 | .asrs i => .asrs i
 | .cadv b off q ex => .cadv b off (m + q) ex
 | .cfrz b off q => .cfrz (m + b) off (m + q)
abbrev Lsp := Nat → St → Option (Bool × List (Bool × Ex × St) × Ex × St)
def noLsp : Lsp := fun _ _ => none
def cfg (P : Program) (t : Tab) (fuel : Nat) (gam : Gam) (lsp : Lsp) (f : FuncId) (m nt : Nat) : Cfg :=
 { P := P, gam := gam, idOf := fun d => (t.idOf f d).map (m + ·), alt := fun d => (t.alt f d).map (m + ·), rid := fun d => (t.rid f d).map (m + ·), byref := t.byref,
   keep := fun i => (t.keep f i).map fun p => (p.1, List.range m ++ p.2.1.map (m + ·), p.2.2.map (offN m)), lsp := lsp, fuel := fuel, join := t.join f, pre := fun i => (t.pre f i).map (offN m), m := m, nid := t.nid f, nt := nt }
def can0 : Kd → AV → AV
 | .sl zs, .nil => .sl .imm zs []
 | .sl zs, .nilz => .sl .imm zs []
 | _, x => x
def canL : List Kd → List AV → List AV
 | z :: zs, x :: xs => can0 z x :: canL zs xs
 | _, xs => xs
def can1 (zs : List Kd) (x : AV) : AV :=
 match x, zs with
 | .agg cs, zs => .agg (canL zs cs)
 | x, [z] => can0 z x
 | x, _ => x
def canT (P : Program) : List TypeId → List AV → List AV
 | t :: ts, x :: xs => (match kindT P 8 t with
    | some zs => can1 zs x
    | none => x) :: canT P ts xs
 | _, xs => xs
def canR (P : Program) (ts : List TypeId) (x : AV) : AV :=
 match ts, x with
 | [t], x => match kindT P 8 t with
   | some zs => can1 zs x
   | none => x
 | ts, .tup xs => .tup (canT P ts xs)
 | _, x => x
def fin (P : Program) (frz : Bool) (m : Nat) (ts : List TypeId) : Option (AV × List Blk) → Option (Bool × AV × List Blk)
 | some (r, outs) => match frz with
   | true => some (true, canR P ts (frz2 m outs r), outs.take m)
   | false => some (true, r, outs)
 | none => none
def gamN (P : Program) (t : Tab) (fuel : Nat) (spec : Gam) : Nat → Gam
 | 0 => spec
 | d + 1 => fun f T0 C0 => match spec f T0 C0 with
   | some r => some r
   | none => match P.funcs[f]? with
     | some fn => roM (t.ro f) C0 (fin P (t.frz f) C0.length fn.resultTypes.toList (evFun (cfg P t fuel (gamN P t fuel spec d) noLsp f C0.length fn.ntmps) fn T0 C0))
     | none => none
section
variable {P : Program} {G : Gh} {w : World}
theorem can0_ok {z : Kd} {x : AV} {v : Value} {rr : Bool} (h : V G w rr x v) : V G w rr (can0 z x) v := by
 unfold can0
 split
 ·cases h; exact .slnil _ _ _ _ _ (fun _ => rfl) (by simp [maxLen]) (fun h => by cases h)
 ·cases h; exact .slnil _ _ _ _ _ (fun _ => rfl) (by simp [maxLen]) (fun h => by cases h)
 ·exact h
theorem canL_len : ∀ (zs : List Kd) (xs : List AV), (canL zs xs).length = xs.length := by
 intro zs
 induction zs with
 | nil => intro xs; simp [canL]
 | cons z zs ih => intro xs; cases xs <;> simp [canL, ih]
theorem canL_ok {rr : Bool} : ∀ (zs : List Kd) (xs : List AV) (i : Nat) (x : AV) (v : Value), (canL zs xs)[i]? = some x → (∀ y, xs[i]? = some y → V G w rr y v) → V G w rr x v := by
 intro zs
 induction zs with
 | nil => intro xs i x v h hv; exact hv x (by simpa [canL] using h)
 | cons z zs ih =>
   intro xs i x v h hv
   cases xs with
   | nil => simp [canL] at h
   | cons y xs =>
     cases i with
     | zero =>
       simp [canL] at h
       subst h
       exact can0_ok (hv y rfl)
     | succ i => exact ih xs i x v (by simpa [canL] using h) fun y' hy' => hv y' (by simpa using hy')
theorem can1_ok {zs : List Kd} {x : AV} {v : Value} {rr : Bool} (h : V G w rr x v) : V G w rr (can1 zs x) v := by
 unfold can1
 split
 ·rename_i cs
  obtain ⟨vs, rfl, hl, hv⟩ := h.agg_inv
  refine .agg _ _ _ (by rw [canL_len]; exact hl) fun i x v hx hv' => canL_ok zs cs i x v hx fun y hy => hv i y v hy hv'
 ·exact can0_ok h
 ·exact h
theorem canT_len : ∀ (ts : List TypeId) (xs : List AV), (canT P ts xs).length = xs.length := by
 intro zs
 induction zs with
 | nil => intro xs; simp [canT]
 | cons z zs ih => intro xs; cases xs <;> simp [canT, ih]
theorem canT_ok {rr : Bool} : ∀ (ts : List TypeId) (xs : List AV) (i : Nat) (x : AV) (v : Value), (canT P ts xs)[i]? = some x → (∀ y, xs[i]? = some y → V G w rr y v) → V G w rr x v := by
 intro zs
 induction zs with
 | nil => intro xs i x v h hv; exact hv x (by simpa [canT] using h)
 | cons z zs ih =>
   intro xs i x v h hv
   cases xs with
   | nil => simp [canT] at h
   | cons y xs =>
     cases i with
     | zero =>
       simp [canT] at h
       have hy := hv y rfl
       subst h
       split
       ·exact can1_ok hy
       ·exact hy
     | succ i => exact ih xs i x v (by simpa [canT] using h) fun y' hy' => hv y' (by simpa using hy')
theorem canR_ok {ts : List TypeId} {x : AV} {v : Value} {rr : Bool} (h : V G w rr x v) : V G w rr (canR P ts x) v := by
 unfold canR
 split
 ·split
  ·exact can1_ok h
  ·exact h
 ·rename_i xs _
  cases h with
  | tup _ _ vs hl hv => exact .tup _ _ _ (by rw [canT_len]; exact hl) fun i x v hx hv' => canT_ok _ _ i x v hx fun y hy => hv i y v hy hv'
 ·exact h
theorem FnOK.fin {f : FuncId} {T0 : List AV} {C0 : List Blk} {r r' : AV} {outs outs' : List Blk} {frz : Bool} {ts : List TypeId} (h : FnOK P f T0 C0 r outs) (hf : fin P frz C0.length ts (some (r, outs)) = some (true, r', outs')) : FnOK P f T0 C0 r' (Gv.unk C0 outs') := by
 refine FnOK.unk ?_
 cases frz with
 | false =>
   injection hf with hf
   injection hf with _ hf
   injection hf with h1 h2
   subst h1 h2
   exact h
 | true =>
   injection hf with hf
   injection hf with _ hf
   injection hf with h1 h2
   subst h1 h2
   intro B vals w G h0 h1 h2 h3 h4
   refine (h B vals w G h0 h1 h2 h3 h4).mono fun e w' ⟨v, G', he, hr⟩ => ⟨v, frzG G' C0.length, he, ?_⟩
   have h5 := frz_ok hr C0.length
   refine ⟨h5.defers, rfl, fun i x u hx hu => ?_, h5.vb, h5.os, h5.tape, h5.output, h5.size, h5.par, h5.old, h5.nl⟩
   cases i with
   | zero =>
     simp at hx hu
     subst hx hu
     exact canR_ok (h5.vt 0 _ v rfl rfl)
   | succ i => simp at hx
theorem enters_of {f : FuncId} {fn : Func} (hf : P.funcs[f]? = some fn) (hn : (fn.name == "runtime.NumGoroutine") = false) (hb : fn.body.isNone = false) : Enters P f := by
 intro args w
 unfold callFunc
 rw [Sem.run_bind]
 have hp : (program).run P w = .ok P w := rfl
 rw [hp]
 simp only [Result.andThen_ok, hf, hn, hb]
 rfl
def plainNames (P : Program) : Bool := P.funcs.toList.all fun fn => !(fn.name == "runtime.NumGoroutine")
theorem cfg_ids {t : Tab} {fuel : Nat} {gam : Gam} {lsp : Lsp} {f : FuncId} {m nt : Nat} : ∀ d q, (cfg P t fuel gam lsp f m nt).idOf d = some q → (cfg P t fuel gam lsp f m nt).m ≤ q := by
 intro d q h
 simp only [cfg] at h ⊢
 cases hq : t.idOf f d with
 | none => rw [hq] at h; cases h
 | some q' =>
   rw [hq] at h
   simp only [Option.map_some, Option.some.injEq] at h
   omega
theorem cfg_alts {t : Tab} {fuel : Nat} {gam : Gam} {lsp : Lsp} {f : FuncId} {m nt : Nat} : ∀ d q, (cfg P t fuel gam lsp f m nt).alt d = some q → (cfg P t fuel gam lsp f m nt).m ≤ q := by
 intro d q h
 simp only [cfg] at h ⊢
 cases hq : t.alt f d with
 | none => rw [hq] at h; cases h
 | some q' =>
   rw [hq] at h
   simp only [Option.map_some, Option.some.injEq] at h
   omega
theorem fn_ok (hm : P.follows .mixedOrders = true) (hp : plainNames P = true) {t : Tab} {fuel : Nat} {gam : Gam} {lsp : Lsp} (hΓ : GamOK P gam) {f : FuncId} {fn : Func} (hf : P.funcs[f]? = some fn) {T0 : List AV} {C0 : List Blk} {r : AV} {outs : List Blk}
  (hL : ∀ c, fn.body = some c → LoopsOK (cfg P t fuel gam lsp f C0.length fn.ntmps) c) (h : evFun (cfg P t fuel gam lsp f C0.length fn.ntmps) fn T0 C0 = some (r, outs)) : Enters P f ∧ FnOK P f T0 C0 r outs := by
 have hb : fn.body.isNone = false := by
  cases hb : fn.body with
  | none => unfold evFun at h; rw [hb] at h; cases h
  | some c => rfl
 have hn : (fn.name == "runtime.NumGoroutine") = false := by
  have := List.all_eq_true.1 hp fn (by
   have := Array.mem_of_getElem? hf
   exact Array.mem_toList_iff.2 this)
  simpa using this
 exact ⟨enters_of hf hn hb, fnOK_of (X := cfg P t fuel gam lsp f C0.length fn.ntmps) hm hΓ cfg_ids cfg_alts hf hL rfl h⟩
theorem GamOK.none (P : Program) : GamOK P fun _ _ _ => none := fun _ _ _ _ _ h => by cases h
def lawG : Gh := { own := fun _ => .imm, nm := fun _ => (0, none) }
theorem walk_of {f : FuncId} {T0 : List AV} {r : AV} {outs : List Blk} (h : FnOK P f T0 [] r outs) (vals : Array Value) (w : World) (hl : T0.length = vals.size) (hv : ∀ (i : Nat) (x : AV) (v : Value), T0[i]? = some x → vals[i]? = some v → V lawG w true x v) :
  Calls P f vals w fun e w' => (∃ v, e = .returned v ∧ ∃ G, V G w' true r v) ∧ Below w.heap.size w w' := by
 have h0 : Rel { w0 := w, own0 := lawG.own, m := 0, nm0 := lawG.nm } ⟨T0, []⟩ { tmps := vals, defers := [] } w lawG := by
  refine ⟨rfl, hl, hv, fun d k hk => ?_, rfl, rfl, rfl, Nat.le_refl _, fun _ _ => rfl, fun _ _ _ => ⟨rfl, rfl⟩, fun _ h => h⟩
  cases hk
 refine (h _ vals w lawG h0 rfl rfl rfl rfl).mono fun e w' ⟨v, G', he, hr⟩ => ?_
 subst he
 refine ⟨⟨v, rfl, G', hr.vt 0 r v rfl rfl⟩, hr.os, hr.tape, hr.output, hr.size, fun k hk => ?_⟩
 exact (hr.old k hk (fun j hj => by cases hj)).2
theorem law_of {f : FuncId} {T0 : List AV} {outs : List Blk} {b : Bool} (h : FnOK P f T0 [] (.bool b) outs) (vals : Array Value) (w : World) (hl : T0.length = vals.size) (hv : ∀ (i : Nat) (x : AV) (v : Value), T0[i]? = some x → vals[i]? = some v → V lawG w true x v) :
  Calls P f vals w fun e w' => e = .returned (.bool b) ∧ Below w.heap.size w w' :=
 (walk_of h vals w hl hv).mono fun e w' ⟨⟨v, he, G, hV⟩, hb⟩ => by
   cases hV
   exact ⟨he, hb⟩
end
end Go.Proofs.Gv
