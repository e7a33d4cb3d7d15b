import Derived.Test.YtgpmodjpehimhaaGt
import Derived.KernelRfl
import Derived.Test.YtgpmodjpehimhaaGwD
import Derived.Test.YtgpmodjpehimhaaGwF
namespace Go.Proofs.Gv
open Go.Proofs
set_option linter.unusedVariables false
theorem mixed : Try.prog.follows .mixedOrders = true := by kernel_rfl
theorem plain : plainNames Try.prog = true := by kernel_rfl
def k0 : Gam := fun _ _ _ => none
theorem k0_ok : GamOK Try.prog k0 := GamOK.none _
noncomputable abbrev gk (k : Gam) : Nat → Gam := gamN Try.prog tab 100000 k
theorem gk_ok {k : Gam} (h : GamOK Try.prog k) (d : Nat) : GamOK Try.prog (gk k d) := gamN_ok mixed plain h d
def spW (ok : Bool) (x : Option (Bool × AV × List Blk)) : Option (Bool × AV × List Blk) :=
  match x with
  | some (_, r, o) => some (ok, r, o)
  | none => none
theorem fin_some {P : Program} {frz : Bool} {m : Nat} {ts : List TypeId} {x : Option (AV × List Blk)} {b : Bool} {r : AV} {o : List Blk} (h : fin P frz m ts x = some (b, r, o)) : ∃ r0 o0, x = some (r0, o0) := by
  cases x with
  | none => cases h
  | some p => exact ⟨p.1, p.2, rfl⟩
theorem spT_inv {ok b' : Bool} {r r' : AV} {o o' : List Blk} (h : spW ok (some (b', r', o')) = some (true, r, o)) : ok = true ∧ r' = r ∧ o' = o := by
  unfold spW at h
  injection h with h
  injection h with h1 h
  injection h with h2 h3
  exact ⟨h1, h2, h3⟩
theorem fin_true {P : Program} {frz : Bool} {m : Nat} {ts : List TypeId} {x : Option (AV × List Blk)} {b : Bool} {r : AV} {o : List Blk} (h : fin P frz m ts x = some (b, r, o)) : b = true := by
  unfold fin at h
  split at h
  · split at h <;> (injection h with h; injection h with h; exact h.symm)
  · cases h
theorem spW_inv {P : Program} {frz : Bool} {m : Nat} {ts : List TypeId} {x : Option (AV × List Blk)} {ok : Bool} {r : AV} {o : List Blk} (h : spW ok (fin P frz m ts x) = some (true, r, o)) : ok = true ∧ fin P frz m ts x = some (true, r, o) := by
  unfold spW at h
  split at h
  · rename_i b r' o' he
    injection h with h
    injection h with h1 h
    injection h with h2 h3
    subst h1 h2 h3
    have := fin_true he
    subst this
    exact ⟨rfl, he⟩
  · cases h
theorem ev30n : evFun (cfg Try.prog tab 100000 (gk k0 30) noLsp 30 ([] : List Blk).length Try.f30.ntmps) Try.f30 [.nil] [] = some (AV.nil, []) := by kernel_rfl
-- spec true ;; (AV.nil, [])
noncomputable def sp30n : List AV → List Blk → Option (Bool × AV × List Blk)
  | [.nil], [] => spW (true) (fin Try.prog (tab.frz 30) ([] : List Blk).length Try.f30.resultTypes.toList (some ((AV.nil, []))))
  | _, _ => none
noncomputable def k30n : Gam := fun f T C => match Nat.beq f 30 with
  | true => (sp30n T C).or (k0 f T C)
  | false => k0 f T C
theorem k30n_ok : GamOK Try.prog k30n := by
  intro f T C r outs h
  unfold k30n at h
  cases hf : Nat.beq f 30 with
  | false => rw [hf] at h; exact k0_ok f T C r outs h
  | true =>
    have hf' := Nat.eq_of_beq_eq_true hf
    subst hf'
    rw [hf] at h
    dsimp only at h
    cases hs : sp30n T C with
    | none => rw [hs] at h; exact k0_ok _ T C r outs h
    | some x =>
      rw [hs] at h
      have hx : x = (true, r, outs) := by simpa using h
      subst hx
      unfold sp30n at hs
      split at hs
      · obtain ⟨hb, hs⟩ := spW_inv hs
        have he := ev30n 
        obtain ⟨h1, h2⟩ := fn_ok mixed plain (gk_ok k0_ok 30) Try.func30 (fun c _ => LoopsOK.none (fun _ _ => rfl) c) he
        exact ⟨h1, h2.fin hs⟩
      · cases hs
noncomputable def vev30s_0 (es : List (List AV)) : List (List AV) := [] ++ es
noncomputable def vev30s_1 (es : List (List AV)) : Bool := bif bif decide (((0 : Nat) + es.length) * (8 : Nat) ≤ (140737488355328 : Nat)) then decide ((0 : Nat) + es.length ≤ (9223372036854775807 : Nat)) else false then true else false
theorem ev30s (es : List (List AV)) : evFun (cfg Try.prog tab 100000 (gk k30n 30) noLsp 30 ([] : List Blk).length Try.f30.ntmps) Try.f30 [.sl .nn [.int .i64] es] [] = bif vev30s_1 es then some (AV.rf (nat_lit 0) [Kd.int IntKind.i64], [Blk.row [Kd.int IntKind.i64] (vev30s_0 es)]) else none := by
  have h : evFun (cfg Try.prog tab 100000 (gk k30n 30) noLsp 30 ([] : List Blk).length Try.f30.ntmps) Try.f30 [.sl .nn [.int .i64] es] [] = bif bif decide (((0 : Nat) + es.length) * (8 : Nat) ≤ (140737488355328 : Nat)) then decide ((0 : Nat) + es.length ≤ (9223372036854775807 : Nat)) else false then some (AV.rf (nat_lit 0) [Kd.int IntKind.i64], [Blk.row [Kd.int IntKind.i64] ([] ++ es)]) else none := by kernel_rfl
  rw [h]
  clear h
  unfold vev30s_0 vev30s_1
  generalize (decide (((0 : Nat) + es.length) * (8 : Nat) ≤ (140737488355328 : Nat))) = c0
  generalize (decide ((0 : Nat) + es.length ≤ (9223372036854775807 : Nat))) = c1
  cases c0
  · skip
    rfl
  · skip
    cases c1
    · skip
      rfl
    · skip
      rfl
-- spec vev30s_1 es ;; (AV.rf (nat_lit 0) [Kd.int IntKind.i64], [Blk.row [Kd.int IntKind.i64] (vev30s_0 es)])
noncomputable def sp30s : List AV → List Blk → Option (Bool × AV × List Blk)
  | [.sl .nn [.int .i64] es], [] => spW (vev30s_1 es) (fin Try.prog (tab.frz 30) ([] : List Blk).length Try.f30.resultTypes.toList (some ((AV.rf (nat_lit 0) [Kd.int IntKind.i64], [Blk.row [Kd.int IntKind.i64] (vev30s_0 es)]))))
  | _, _ => none
noncomputable def k30s : Gam := fun f T C => match Nat.beq f 30 with
  | true => (sp30s T C).or (k30n f T C)
  | false => k30n f T C
theorem k30s_ok : GamOK Try.prog k30s := by
  intro f T C r outs h
  unfold k30s at h
  cases hf : Nat.beq f 30 with
  | false => rw [hf] at h; exact k30n_ok f T C r outs h
  | true =>
    have hf' := Nat.eq_of_beq_eq_true hf
    subst hf'
    rw [hf] at h
    dsimp only at h
    cases hs : sp30s T C with
    | none => rw [hs] at h; exact k30n_ok _ T C r outs h
    | some x =>
      rw [hs] at h
      have hx : x = (true, r, outs) := by simpa using h
      subst hx
      unfold sp30s at hs
      split at hs
      · rename_i es
        obtain ⟨hb, hs⟩ := spW_inv hs
        have he := ev30s es
        rw [hb, cond_true] at he
        obtain ⟨h1, h2⟩ := fn_ok mixed plain (gk_ok k30n_ok 30) Try.func30 (fun c _ => LoopsOK.none (fun _ _ => rfl) c) he
        exact ⟨h1, h2.fin hs⟩
      · cases hs
noncomputable def sp30c : List AV → List Blk → Option (Bool × AV × List Blk)
  | [.sl _ [.int .i64] es], [] => some (Nat.ble (es.length * 8) 140737488355328, .rf 0 [.int .i64], [.row [.int .i64] es])
  | _, _ => none
noncomputable def k30c : Gam := fun f T C => match Nat.beq f 30 with
  | true => (sp30c T C).or (k30s f T C)
  | false => k30s f T C
theorem k30c_ok : GamOK Try.prog k30c := by
  intro f T C r outs h
  unfold k30c at h
  cases hf : Nat.beq f 30 with
  | false => rw [hf] at h; exact k30s_ok f T C r outs h
  | true =>
    have hf' := Nat.eq_of_beq_eq_true hf
    subst hf'
    rw [hf] at h
    dsimp only at h
    cases hs : sp30c T C with
    | none => rw [hs] at h; exact k30s_ok _ T C r outs h
    | some x =>
      rw [hs] at h
      have hx : x = (true, r, outs) := by simpa using h
      subst hx
      unfold sp30c at hs
      split at hs
      · rename_i t es
        injection hs with hs
        injection hs with hb hs
        injection hs with e1 e2
        subst e1 e2
        have hb := Nat.le_of_ble_eq_true hb
        have h1 := fn_ok mixed plain (gk_ok k0_ok 30) Try.func30 (fun c _ => LoopsOK.none (fun _ _ => rfl) c) ev30n
        have he := ev30s es
        have hok : vev30s_1 es = true := by
          unfold vev30s_1
          rw [decide_eq_true (show (0 + es.length) * 8 ≤ 140737488355328 by omega), decide_eq_true (show 0 + es.length ≤ 9223372036854775807 by omega)]
          rfl
        rw [hok, cond_true] at he
        have h2 := fn_ok mixed plain (gk_ok k30n_ok 30) Try.func30 (fun c _ => LoopsOK.none (fun _ _ => rfl) c) he
        exact ⟨h1.1, clone_ok (by decide) h1.2 (fun h => h) h2.2 t⟩
      · cases hs
theorem aw6 : gk k30c 30 6 [] [] = some (true, .bool true, []) := by kernel_rfl
noncomputable def k6 : Gam := fun f T C => match Nat.beq f 6, T, C with
  | true, [], [] => some (true, .bool true, [])
  | _, T, C => k30c f T C
theorem k6_ok : GamOK Try.prog k6 := by
  intro f T C r outs h
  unfold k6 at h
  split at h
  · rename_i hf
    have hf' := Nat.eq_of_beq_eq_true hf
    subst hf'
    have hx : (true, AV.bool true, ([] : List Blk)) = (true, r, outs) := by simpa using h
    injection hx with _ hx
    injection hx with h1 h2
    subst h1 h2
    exact gk_ok k30c_ok 30 6 [] [] _ _ aw6
  · exact k30c_ok _ _ _ r outs h
end Go.Proofs.Gv
