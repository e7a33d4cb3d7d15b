import Derived.Test.YthnbpgiohimkoaaGt
import Derived.KernelRfl
import Derived.Test.YthnbpgiohimkoaaGwD
import Derived.Test.YthnbpgiohimkoaaGwF
import Derived.Test.YthnbpgiohimkoaaGxJ
namespace Go.Proofs.Gv
open Go.Proofs
set_option linter.unusedVariables false
theorem mixed : Try.prog.follows .mixedOrders = true := by kernel_rfl
theorem plain : plainNames Try.prog = true := by kernel_rfl
noncomputable abbrev j87 : Func := unj Try.f87
noncomputable abbrev j114 : Func := unj Try.f114
def k0 : Gam := fun _ _ _ => none
theorem k0_ok : GamOK Try.prog k0 := GamOK.none _
noncomputable abbrev gk (k : Gam) : Nat → Gam := gamJ Try.prog tab 100000 k
theorem gk_ok {k : Gam} (h : GamOK Try.prog k) (d : Nat) : GamOK Try.prog (gk k d) := gamJ_ok mixed plain h d
def spW (ok : Bool) (x : Option (Bool × AV × List Blk)) : Option (Bool × AV × List Blk) :=
  match x with
  | some (_, r, o) => some (ok, r, o)
  | none => none
theorem fin_some {P : Program} {frz : Bool} {m : Nat} {ts : List TypeId} {x : Option (AV × List Blk)} {b : Bool} {r : AV} {o : List Blk} (h : fin P frz m ts x = some (b, r, o)) : ∃ r0 o0, x = some (r0, o0) := by
  cases x with
  | none => cases h
  | some p => exact ⟨p.1, p.2, rfl⟩
theorem spT_inv {ok b' : Bool} {r r' : AV} {o o' : List Blk} (h : spW ok (some (b', r', o')) = some (true, r, o)) : ok = true ∧ r' = r ∧ o' = o := by
  unfold spW at h
  injection h with h
  injection h with h1 h
  injection h with h2 h3
  exact ⟨h1, h2, h3⟩
theorem fin_true {P : Program} {frz : Bool} {m : Nat} {ts : List TypeId} {x : Option (AV × List Blk)} {b : Bool} {r : AV} {o : List Blk} (h : fin P frz m ts x = some (b, r, o)) : b = true := by
  unfold fin at h
  split at h
  · split at h <;> (injection h with h; injection h with h; exact h.symm)
  · cases h
theorem spW_inv {P : Program} {frz : Bool} {m : Nat} {ts : List TypeId} {x : Option (AV × List Blk)} {ok : Bool} {r : AV} {o : List Blk} (h : spW ok (fin P frz m ts x) = some (true, r, o)) : ok = true ∧ fin P frz m ts x = some (true, r, o) := by
  unfold spW at h
  split at h
  · rename_i b r' o' he
    injection h with h
    injection h with h1 h
    injection h with h2 h3
    subst h1 h2 h3
    have := fin_true he
    subst this
    exact ⟨rfl, he⟩
  · cases h
theorem ev75n : evFun (cfg Try.prog tab 100000 (gk k0 30) noLsp 75 ([] : List Blk).length Try.f75.ntmps) Try.f75 [.nil] [] = some (AV.nil, []) := by kernel_rfl
-- spec true ;; (AV.nil, [])
noncomputable def sp75n : List AV → List Blk → Option (Bool × AV × List Blk)
  | [.nil], [] => spW (true) (fin Try.prog (tab.frz 75) ([] : List Blk).length Try.f75.resultTypes.toList (some ((AV.nil, []))))
  | _, _ => none
noncomputable def k75n : Gam := fun f T C => match Nat.beq f 75 with
  | true => (sp75n T C).or (k0 f T C)
  | false => k0 f T C
theorem k75n_ok : GamOK Try.prog k75n := by
  intro f T C r outs h
  unfold k75n at h
  cases hf : Nat.beq f 75 with
  | false => rw [hf] at h; exact k0_ok f T C r outs h
  | true =>
    have hf' := Nat.eq_of_beq_eq_true hf
    subst hf'
    rw [hf] at h
    dsimp only at h
    cases hs : sp75n T C with
    | none => rw [hs] at h; exact k0_ok _ T C r outs h
    | some x =>
      rw [hs] at h
      have hx : x = (true, r, outs) := by simpa using h
      subst hx
      unfold sp75n at hs
      split at hs
      · obtain ⟨hb, hs⟩ := spW_inv hs
        have he := ev75n 
        obtain ⟨h1, h2⟩ := fn_ok mixed plain (gk_ok k0_ok 30) Try.func75 (fun c _ => LoopsOK.none (fun _ _ => rfl) c) he
        exact ⟨h1, h2.fin hs⟩
      · cases hs
noncomputable def vev75s_0 (es : List (List AV)) : List (List AV) := [] ++ es
noncomputable def vev75s_1 (es : List (List AV)) : Bool := bif bif decide (((0 : Nat) + es.length) * (32 : Nat) ≤ (140737488355328 : Nat)) then decide ((0 : Nat) + es.length ≤ (9223372036854775807 : Nat)) else false then true else false
theorem ev75s (es : List (List AV)) : evFun (cfg Try.prog tab 100000 (gk k75n 30) noLsp 75 ([] : List Blk).length Try.f75.ntmps) Try.f75 [.sl .nn [.int .i64, .int .i64, .int .i64, .int .i64] es] [] = bif vev75s_1 es then some (AV.rf (nat_lit 0) [Kd.int IntKind.i64, Kd.int IntKind.i64, Kd.int IntKind.i64, Kd.int IntKind.i64], [Blk.row [Kd.int IntKind.i64, Kd.int IntKind.i64, Kd.int IntKind.i64, Kd.int IntKind.i64] (vev75s_0 es)]) else none := by
  have h : evFun (cfg Try.prog tab 100000 (gk k75n 30) noLsp 75 ([] : List Blk).length Try.f75.ntmps) Try.f75 [.sl .nn [.int .i64, .int .i64, .int .i64, .int .i64] es] [] = bif bif decide (((0 : Nat) + es.length) * (32 : Nat) ≤ (140737488355328 : Nat)) then decide ((0 : Nat) + es.length ≤ (9223372036854775807 : Nat)) else false then some (AV.rf (nat_lit 0) [Kd.int IntKind.i64, Kd.int IntKind.i64, Kd.int IntKind.i64, Kd.int IntKind.i64], [Blk.row [Kd.int IntKind.i64, Kd.int IntKind.i64, Kd.int IntKind.i64, Kd.int IntKind.i64] ([] ++ es)]) else none := by kernel_rfl
  rw [h]
  clear h
  unfold vev75s_0 vev75s_1
  generalize (decide (((0 : Nat) + es.length) * (32 : Nat) ≤ (140737488355328 : Nat))) = c0
  generalize (decide ((0 : Nat) + es.length ≤ (9223372036854775807 : Nat))) = c1
  cases c0
  · skip
    rfl
  · skip
    cases c1
    · skip
      rfl
    · skip
      rfl
-- spec vev75s_1 es ;; (AV.rf (nat_lit 0) [Kd.int IntKind.i64, Kd.int IntKind.i64, Kd.int IntKind.i64, Kd.int IntKind.i64], [Blk.row [Kd.int IntKind.i64, Kd.int IntKind.i64, Kd.int IntKind.i64, Kd.int IntKind.i64] (vev75s_0 es)])
noncomputable def sp75s : List AV → List Blk → Option (Bool × AV × List Blk)
  | [.sl .nn [.int .i64, .int .i64, .int .i64, .int .i64] es], [] => spW (vev75s_1 es) (fin Try.prog (tab.frz 75) ([] : List Blk).length Try.f75.resultTypes.toList (some ((AV.rf (nat_lit 0) [Kd.int IntKind.i64, Kd.int IntKind.i64, Kd.int IntKind.i64, Kd.int IntKind.i64], [Blk.row [Kd.int IntKind.i64, Kd.int IntKind.i64, Kd.int IntKind.i64, Kd.int IntKind.i64] (vev75s_0 es)]))))
  | _, _ => none
noncomputable def k75s : Gam := fun f T C => match Nat.beq f 75 with
  | true => (sp75s T C).or (k75n f T C)
  | false => k75n f T C
theorem k75s_ok : GamOK Try.prog k75s := by
  intro f T C r outs h
  unfold k75s at h
  cases hf : Nat.beq f 75 with
  | false => rw [hf] at h; exact k75n_ok f T C r outs h
  | true =>
    have hf' := Nat.eq_of_beq_eq_true hf
    subst hf'
    rw [hf] at h
    dsimp only at h
    cases hs : sp75s T C with
    | none => rw [hs] at h; exact k75n_ok _ T C r outs h
    | some x =>
      rw [hs] at h
      have hx : x = (true, r, outs) := by simpa using h
      subst hx
      unfold sp75s at hs
      split at hs
      · rename_i es
        obtain ⟨hb, hs⟩ := spW_inv hs
        have he := ev75s es
        rw [hb, cond_true] at he
        obtain ⟨h1, h2⟩ := fn_ok mixed plain (gk_ok k75n_ok 30) Try.func75 (fun c _ => LoopsOK.none (fun _ _ => rfl) c) he
        exact ⟨h1, h2.fin hs⟩
      · cases hs
noncomputable def sp75c : List AV → List Blk → Option (Bool × AV × List Blk)
  | [.sl _ [.int .i64, .int .i64, .int .i64, .int .i64] es], [] => some (Nat.ble (es.length * 32) 140737488355328, .rf 0 [.int .i64, .int .i64, .int .i64, .int .i64], [.row [.int .i64, .int .i64, .int .i64, .int .i64] es])
  | _, _ => none
noncomputable def k75c : Gam := fun f T C => match Nat.beq f 75 with
  | true => (sp75c T C).or (k75s f T C)
  | false => k75s f T C
theorem k75c_ok : GamOK Try.prog k75c := by
  intro f T C r outs h
  unfold k75c at h
  cases hf : Nat.beq f 75 with
  | false => rw [hf] at h; exact k75s_ok f T C r outs h
  | true =>
    have hf' := Nat.eq_of_beq_eq_true hf
    subst hf'
    rw [hf] at h
    dsimp only at h
    cases hs : sp75c T C with
    | none => rw [hs] at h; exact k75s_ok _ T C r outs h
    | some x =>
      rw [hs] at h
      have hx : x = (true, r, outs) := by simpa using h
      subst hx
      unfold sp75c at hs
      split at hs
      · rename_i t es
        injection hs with hs
        injection hs with hb hs
        injection hs with e1 e2
        subst e1 e2
        have hb := Nat.le_of_ble_eq_true hb
        have h1 := fn_ok mixed plain (gk_ok k0_ok 30) Try.func75 (fun c _ => LoopsOK.none (fun _ _ => rfl) c) ev75n
        have he := ev75s es
        have hok : vev75s_1 es = true := by
          unfold vev75s_1
          rw [decide_eq_true (show (0 + es.length) * 32 ≤ 140737488355328 by omega), decide_eq_true (show 0 + es.length ≤ 9223372036854775807 by omega)]
          rfl
        rw [hok, cond_true] at he
        have h2 := fn_ok mixed plain (gk_ok k75n_ok 30) Try.func75 (fun c _ => LoopsOK.none (fun _ _ => rfl) c) he
        exact ⟨h1.1, clone_ok (by decide) h1.2 (fun h => h) h2.2 t⟩
      · cases hs
theorem ev94n : evFun (cfg Try.prog tab 100000 (gk k75c 30) noLsp 94 ([] : List Blk).length Try.f94.ntmps) Try.f94 [.nil] [] = some (AV.nil, []) := by kernel_rfl
-- spec true ;; (AV.nil, [])
noncomputable def sp94n : List AV → List Blk → Option (Bool × AV × List Blk)
  | [.nil], [] => spW (true) (fin Try.prog (tab.frz 94) ([] : List Blk).length Try.f94.resultTypes.toList (some ((AV.nil, []))))
  | _, _ => none
noncomputable def k94n : Gam := fun f T C => match Nat.beq f 94 with
  | true => (sp94n T C).or (k75c f T C)
  | false => k75c f T C
theorem k94n_ok : GamOK Try.prog k94n := by
  intro f T C r outs h
  unfold k94n at h
  cases hf : Nat.beq f 94 with
  | false => rw [hf] at h; exact k75c_ok f T C r outs h
  | true =>
    have hf' := Nat.eq_of_beq_eq_true hf
    subst hf'
    rw [hf] at h
    dsimp only at h
    cases hs : sp94n T C with
    | none => rw [hs] at h; exact k75c_ok _ T C r outs h
    | some x =>
      rw [hs] at h
      have hx : x = (true, r, outs) := by simpa using h
      subst hx
      unfold sp94n at hs
      split at hs
      · obtain ⟨hb, hs⟩ := spW_inv hs
        have he := ev94n 
        obtain ⟨h1, h2⟩ := fn_ok mixed plain (gk_ok k75c_ok 30) Try.func94 (fun c _ => LoopsOK.none (fun _ _ => rfl) c) he
        exact ⟨h1, h2.fin hs⟩
      · cases hs
noncomputable def vev94s_0 (es : List (List AV)) : List (List AV) := [] ++ es
noncomputable def vev94s_1 (es : List (List AV)) : Bool := bif bif decide (((0 : Nat) + es.length) * (8 : Nat) ≤ (140737488355328 : Nat)) then decide ((0 : Nat) + es.length ≤ (9223372036854775807 : Nat)) else false then true else false
theorem ev94s (es : List (List AV)) : evFun (cfg Try.prog tab 100000 (gk k94n 30) noLsp 94 ([] : List Blk).length Try.f94.ntmps) Try.f94 [.sl .nn [.int .i64] es] [] = bif vev94s_1 es then some (AV.rf (nat_lit 0) [Kd.int IntKind.i64], [Blk.row [Kd.int IntKind.i64] (vev94s_0 es)]) else none := by
  have h : evFun (cfg Try.prog tab 100000 (gk k94n 30) noLsp 94 ([] : List Blk).length Try.f94.ntmps) Try.f94 [.sl .nn [.int .i64] es] [] = bif bif decide (((0 : Nat) + es.length) * (8 : Nat) ≤ (140737488355328 : Nat)) then decide ((0 : Nat) + es.length ≤ (9223372036854775807 : Nat)) else false then some (AV.rf (nat_lit 0) [Kd.int IntKind.i64], [Blk.row [Kd.int IntKind.i64] ([] ++ es)]) else none := by kernel_rfl
  rw [h]
  clear h
  unfold vev94s_0 vev94s_1
  generalize (decide (((0 : Nat) + es.length) * (8 : Nat) ≤ (140737488355328 : Nat))) = c0
  generalize (decide ((0 : Nat) + es.length ≤ (9223372036854775807 : Nat))) = c1
  cases c0
  · skip
    rfl
  · skip
    cases c1
    · skip
      rfl
    · skip
      rfl
-- spec vev94s_1 es ;; (AV.rf (nat_lit 0) [Kd.int IntKind.i64], [Blk.row [Kd.int IntKind.i64] (vev94s_0 es)])
noncomputable def sp94s : List AV → List Blk → Option (Bool × AV × List Blk)
  | [.sl .nn [.int .i64] es], [] => spW (vev94s_1 es) (fin Try.prog (tab.frz 94) ([] : List Blk).length Try.f94.resultTypes.toList (some ((AV.rf (nat_lit 0) [Kd.int IntKind.i64], [Blk.row [Kd.int IntKind.i64] (vev94s_0 es)]))))
  | _, _ => none
noncomputable def k94s : Gam := fun f T C => match Nat.beq f 94 with
  | true => (sp94s T C).or (k94n f T C)
  | false => k94n f T C
theorem k94s_ok : GamOK Try.prog k94s := by
  intro f T C r outs h
  unfold k94s at h
  cases hf : Nat.beq f 94 with
  | false => rw [hf] at h; exact k94n_ok f T C r outs h
  | true =>
    have hf' := Nat.eq_of_beq_eq_true hf
    subst hf'
    rw [hf] at h
    dsimp only at h
    cases hs : sp94s T C with
    | none => rw [hs] at h; exact k94n_ok _ T C r outs h
    | some x =>
      rw [hs] at h
      have hx : x = (true, r, outs) := by simpa using h
      subst hx
      unfold sp94s at hs
      split at hs
      · rename_i es
        obtain ⟨hb, hs⟩ := spW_inv hs
        have he := ev94s es
        rw [hb, cond_true] at he
        obtain ⟨h1, h2⟩ := fn_ok mixed plain (gk_ok k94n_ok 30) Try.func94 (fun c _ => LoopsOK.none (fun _ _ => rfl) c) he
        exact ⟨h1, h2.fin hs⟩
      · cases hs
noncomputable def sp94c : List AV → List Blk → Option (Bool × AV × List Blk)
  | [.sl _ [.int .i64] es], [] => some (Nat.ble (es.length * 8) 140737488355328, .rf 0 [.int .i64], [.row [.int .i64] es])
  | _, _ => none
noncomputable def k94c : Gam := fun f T C => match Nat.beq f 94 with
  | true => (sp94c T C).or (k94s f T C)
  | false => k94s f T C
theorem k94c_ok : GamOK Try.prog k94c := by
  intro f T C r outs h
  unfold k94c at h
  cases hf : Nat.beq f 94 with
  | false => rw [hf] at h; exact k94s_ok f T C r outs h
  | true =>
    have hf' := Nat.eq_of_beq_eq_true hf
    subst hf'
    rw [hf] at h
    dsimp only at h
    cases hs : sp94c T C with
    | none => rw [hs] at h; exact k94s_ok _ T C r outs h
    | some x =>
      rw [hs] at h
      have hx : x = (true, r, outs) := by simpa using h
      subst hx
      unfold sp94c at hs
      split at hs
      · rename_i t es
        injection hs with hs
        injection hs with hb hs
        injection hs with e1 e2
        subst e1 e2
        have hb := Nat.le_of_ble_eq_true hb
        have h1 := fn_ok mixed plain (gk_ok k75c_ok 30) Try.func94 (fun c _ => LoopsOK.none (fun _ _ => rfl) c) ev94n
        have he := ev94s es
        have hok : vev94s_1 es = true := by
          unfold vev94s_1
          rw [decide_eq_true (show (0 + es.length) * 8 ≤ 140737488355328 by omega), decide_eq_true (show 0 + es.length ≤ 9223372036854775807 by omega)]
          rfl
        rw [hok, cond_true] at he
        have h2 := fn_ok mixed plain (gk_ok k94n_ok 30) Try.func94 (fun c _ => LoopsOK.none (fun _ _ => rfl) c) he
        exact ⟨h1.1, clone_ok (by decide) h1.2 (fun h => h) h2.2 t⟩
      · cases hs
theorem ev111n : evFun (cfg Try.prog tab 100000 (gk k94c 30) noLsp 111 ([] : List Blk).length Try.f111.ntmps) Try.f111 [.nil] [] = some (AV.nil, []) := by kernel_rfl
-- spec true ;; (AV.nil, [])
noncomputable def sp111n : List AV → List Blk → Option (Bool × AV × List Blk)
  | [.nil], [] => spW (true) (fin Try.prog (tab.frz 111) ([] : List Blk).length Try.f111.resultTypes.toList (some ((AV.nil, []))))
  | _, _ => none
noncomputable def k111n : Gam := fun f T C => match Nat.beq f 111 with
  | true => (sp111n T C).or (k94c f T C)
  | false => k94c f T C
theorem k111n_ok : GamOK Try.prog k111n := by
  intro f T C r outs h
  unfold k111n at h
  cases hf : Nat.beq f 111 with
  | false => rw [hf] at h; exact k94c_ok f T C r outs h
  | true =>
    have hf' := Nat.eq_of_beq_eq_true hf
    subst hf'
    rw [hf] at h
    dsimp only at h
    cases hs : sp111n T C with
    | none => rw [hs] at h; exact k94c_ok _ T C r outs h
    | some x =>
      rw [hs] at h
      have hx : x = (true, r, outs) := by simpa using h
      subst hx
      unfold sp111n at hs
      split at hs
      · obtain ⟨hb, hs⟩ := spW_inv hs
        have he := ev111n 
        obtain ⟨h1, h2⟩ := fn_ok mixed plain (gk_ok k94c_ok 30) Try.func111 (fun c _ => LoopsOK.none (fun _ _ => rfl) c) he
        exact ⟨h1, h2.fin hs⟩
      · cases hs
noncomputable def vev111s_0 (es : List (List AV)) : List (List AV) := [] ++ es
noncomputable def vev111s_1 (es : List (List AV)) : Bool := bif bif decide (((0 : Nat) + es.length) * (16 : Nat) ≤ (140737488355328 : Nat)) then decide ((0 : Nat) + es.length ≤ (9223372036854775807 : Nat)) else false then true else false
theorem ev111s (es : List (List AV)) : evFun (cfg Try.prog tab 100000 (gk k111n 30) noLsp 111 ([] : List Blk).length Try.f111.ntmps) Try.f111 [.sl .nn [.int .i64, .int .i64] es] [] = bif vev111s_1 es then some (AV.rf (nat_lit 0) [Kd.int IntKind.i64, Kd.int IntKind.i64], [Blk.row [Kd.int IntKind.i64, Kd.int IntKind.i64] (vev111s_0 es)]) else none := by
  have h : evFun (cfg Try.prog tab 100000 (gk k111n 30) noLsp 111 ([] : List Blk).length Try.f111.ntmps) Try.f111 [.sl .nn [.int .i64, .int .i64] es] [] = bif bif decide (((0 : Nat) + es.length) * (16 : Nat) ≤ (140737488355328 : Nat)) then decide ((0 : Nat) + es.length ≤ (9223372036854775807 : Nat)) else false then some (AV.rf (nat_lit 0) [Kd.int IntKind.i64, Kd.int IntKind.i64], [Blk.row [Kd.int IntKind.i64, Kd.int IntKind.i64] ([] ++ es)]) else none := by kernel_rfl
  rw [h]
  clear h
  unfold vev111s_0 vev111s_1
  generalize (decide (((0 : Nat) + es.length) * (16 : Nat) ≤ (140737488355328 : Nat))) = c0
  generalize (decide ((0 : Nat) + es.length ≤ (9223372036854775807 : Nat))) = c1
  cases c0
  · skip
    rfl
  · skip
    cases c1
    · skip
      rfl
    · skip
      rfl
-- spec vev111s_1 es ;; (AV.rf (nat_lit 0) [Kd.int IntKind.i64, Kd.int IntKind.i64], [Blk.row [Kd.int IntKind.i64, Kd.int IntKind.i64] (vev111s_0 es)])
noncomputable def sp111s : List AV → List Blk → Option (Bool × AV × List Blk)
  | [.sl .nn [.int .i64, .int .i64] es], [] => spW (vev111s_1 es) (fin Try.prog (tab.frz 111) ([] : List Blk).length Try.f111.resultTypes.toList (some ((AV.rf (nat_lit 0) [Kd.int IntKind.i64, Kd.int IntKind.i64], [Blk.row [Kd.int IntKind.i64, Kd.int IntKind.i64] (vev111s_0 es)]))))
  | _, _ => none
noncomputable def k111s : Gam := fun f T C => match Nat.beq f 111 with
  | true => (sp111s T C).or (k111n f T C)
  | false => k111n f T C
theorem k111s_ok : GamOK Try.prog k111s := by
  intro f T C r outs h
  unfold k111s at h
  cases hf : Nat.beq f 111 with
  | false => rw [hf] at h; exact k111n_ok f T C r outs h
  | true =>
    have hf' := Nat.eq_of_beq_eq_true hf
    subst hf'
    rw [hf] at h
    dsimp only at h
    cases hs : sp111s T C with
    | none => rw [hs] at h; exact k111n_ok _ T C r outs h
    | some x =>
      rw [hs] at h
      have hx : x = (true, r, outs) := by simpa using h
      subst hx
      unfold sp111s at hs
      split at hs
      · rename_i es
        obtain ⟨hb, hs⟩ := spW_inv hs
        have he := ev111s es
        rw [hb, cond_true] at he
        obtain ⟨h1, h2⟩ := fn_ok mixed plain (gk_ok k111n_ok 30) Try.func111 (fun c _ => LoopsOK.none (fun _ _ => rfl) c) he
        exact ⟨h1, h2.fin hs⟩
      · cases hs
noncomputable def sp111c : List AV → List Blk → Option (Bool × AV × List Blk)
  | [.sl _ [.int .i64, .int .i64] es], [] => some (Nat.ble (es.length * 16) 140737488355328, .rf 0 [.int .i64, .int .i64], [.row [.int .i64, .int .i64] es])
  | _, _ => none
noncomputable def k111c : Gam := fun f T C => match Nat.beq f 111 with
  | true => (sp111c T C).or (k111s f T C)
  | false => k111s f T C
theorem k111c_ok : GamOK Try.prog k111c := by
  intro f T C r outs h
  unfold k111c at h
  cases hf : Nat.beq f 111 with
  | false => rw [hf] at h; exact k111s_ok f T C r outs h
  | true =>
    have hf' := Nat.eq_of_beq_eq_true hf
    subst hf'
    rw [hf] at h
    dsimp only at h
    cases hs : sp111c T C with
    | none => rw [hs] at h; exact k111s_ok _ T C r outs h
    | some x =>
      rw [hs] at h
      have hx : x = (true, r, outs) := by simpa using h
      subst hx
      unfold sp111c at hs
      split at hs
      · rename_i t es
        injection hs with hs
        injection hs with hb hs
        injection hs with e1 e2
        subst e1 e2
        have hb := Nat.le_of_ble_eq_true hb
        have h1 := fn_ok mixed plain (gk_ok k94c_ok 30) Try.func111 (fun c _ => LoopsOK.none (fun _ _ => rfl) c) ev111n
        have he := ev111s es
        have hok : vev111s_1 es = true := by
          unfold vev111s_1
          rw [decide_eq_true (show (0 + es.length) * 16 ≤ 140737488355328 by omega), decide_eq_true (show 0 + es.length ≤ 9223372036854775807 by omega)]
          rfl
        rw [hok, cond_true] at he
        have h2 := fn_ok mixed plain (gk_ok k111n_ok 30) Try.func111 (fun c _ => LoopsOK.none (fun _ _ => rfl) c) he
        exact ⟨h1.1, clone_ok (by decide) h1.2 (fun h => h) h2.2 t⟩
      · cases hs
theorem ev118n : evFun (cfg Try.prog tab 100000 (gk k111c 30) noLsp 118 ([] : List Blk).length Try.f118.ntmps) Try.f118 [.nil] [] = some (AV.nil, []) := by kernel_rfl
-- spec true ;; (AV.nil, [])
noncomputable def sp118n : List AV → List Blk → Option (Bool × AV × List Blk)
  | [.nil], [] => spW (true) (fin Try.prog (tab.frz 118) ([] : List Blk).length Try.f118.resultTypes.toList (some ((AV.nil, []))))
  | _, _ => none
noncomputable def k118n : Gam := fun f T C => match Nat.beq f 118 with
  | true => (sp118n T C).or (k111c f T C)
  | false => k111c f T C
theorem k118n_ok : GamOK Try.prog k118n := by
  intro f T C r outs h
  unfold k118n at h
  cases hf : Nat.beq f 118 with
  | false => rw [hf] at h; exact k111c_ok f T C r outs h
  | true =>
    have hf' := Nat.eq_of_beq_eq_true hf
    subst hf'
    rw [hf] at h
    dsimp only at h
    cases hs : sp118n T C with
    | none => rw [hs] at h; exact k111c_ok _ T C r outs h
    | some x =>
      rw [hs] at h
      have hx : x = (true, r, outs) := by simpa using h
      subst hx
      unfold sp118n at hs
      split at hs
      · obtain ⟨hb, hs⟩ := spW_inv hs
        have he := ev118n 
        obtain ⟨h1, h2⟩ := fn_ok mixed plain (gk_ok k111c_ok 30) Try.func118 (fun c _ => LoopsOK.none (fun _ _ => rfl) c) he
        exact ⟨h1, h2.fin hs⟩
      · cases hs
noncomputable def vev118s_0 (es : List (List AV)) : List (List AV) := [] ++ es
noncomputable def vev118s_1 (es : List (List AV)) : Bool := bif bif decide (((0 : Nat) + es.length) * (16 : Nat) ≤ (140737488355328 : Nat)) then decide ((0 : Nat) + es.length ≤ (9223372036854775807 : Nat)) else false then true else false
theorem ev118s (es : List (List AV)) : evFun (cfg Try.prog tab 100000 (gk k118n 30) noLsp 118 ([] : List Blk).length Try.f118.ntmps) Try.f118 [.sl .nn [.int .i64, .int .i64] es] [] = bif vev118s_1 es then some (AV.rf (nat_lit 0) [Kd.int IntKind.i64, Kd.int IntKind.i64], [Blk.row [Kd.int IntKind.i64, Kd.int IntKind.i64] (vev118s_0 es)]) else none := by
  have h : evFun (cfg Try.prog tab 100000 (gk k118n 30) noLsp 118 ([] : List Blk).length Try.f118.ntmps) Try.f118 [.sl .nn [.int .i64, .int .i64] es] [] = bif bif decide (((0 : Nat) + es.length) * (16 : Nat) ≤ (140737488355328 : Nat)) then decide ((0 : Nat) + es.length ≤ (9223372036854775807 : Nat)) else false then some (AV.rf (nat_lit 0) [Kd.int IntKind.i64, Kd.int IntKind.i64], [Blk.row [Kd.int IntKind.i64, Kd.int IntKind.i64] ([] ++ es)]) else none := by kernel_rfl
  rw [h]
  clear h
  unfold vev118s_0 vev118s_1
  generalize (decide (((0 : Nat) + es.length) * (16 : Nat) ≤ (140737488355328 : Nat))) = c0
  generalize (decide ((0 : Nat) + es.length ≤ (9223372036854775807 : Nat))) = c1
  cases c0
  · skip
    rfl
  · skip
    cases c1
    · skip
      rfl
    · skip
      rfl
-- spec vev118s_1 es ;; (AV.rf (nat_lit 0) [Kd.int IntKind.i64, Kd.int IntKind.i64], [Blk.row [Kd.int IntKind.i64, Kd.int IntKind.i64] (vev118s_0 es)])
noncomputable def sp118s : List AV → List Blk → Option (Bool × AV × List Blk)
  | [.sl .nn [.int .i64, .int .i64] es], [] => spW (vev118s_1 es) (fin Try.prog (tab.frz 118) ([] : List Blk).length Try.f118.resultTypes.toList (some ((AV.rf (nat_lit 0) [Kd.int IntKind.i64, Kd.int IntKind.i64], [Blk.row [Kd.int IntKind.i64, Kd.int IntKind.i64] (vev118s_0 es)]))))
  | _, _ => none
noncomputable def k118s : Gam := fun f T C => match Nat.beq f 118 with
  | true => (sp118s T C).or (k118n f T C)
  | false => k118n f T C
theorem k118s_ok : GamOK Try.prog k118s := by
  intro f T C r outs h
  unfold k118s at h
  cases hf : Nat.beq f 118 with
  | false => rw [hf] at h; exact k118n_ok f T C r outs h
  | true =>
    have hf' := Nat.eq_of_beq_eq_true hf
    subst hf'
    rw [hf] at h
    dsimp only at h
    cases hs : sp118s T C with
    | none => rw [hs] at h; exact k118n_ok _ T C r outs h
    | some x =>
      rw [hs] at h
      have hx : x = (true, r, outs) := by simpa using h
      subst hx
      unfold sp118s at hs
      split at hs
      · rename_i es
        obtain ⟨hb, hs⟩ := spW_inv hs
        have he := ev118s es
        rw [hb, cond_true] at he
        obtain ⟨h1, h2⟩ := fn_ok mixed plain (gk_ok k118n_ok 30) Try.func118 (fun c _ => LoopsOK.none (fun _ _ => rfl) c) he
        exact ⟨h1, h2.fin hs⟩
      · cases hs
noncomputable def sp118c : List AV → List Blk → Option (Bool × AV × List Blk)
  | [.sl _ [.int .i64, .int .i64] es], [] => some (Nat.ble (es.length * 16) 140737488355328, .rf 0 [.int .i64, .int .i64], [.row [.int .i64, .int .i64] es])
  | _, _ => none
noncomputable def k118c : Gam := fun f T C => match Nat.beq f 118 with
  | true => (sp118c T C).or (k118s f T C)
  | false => k118s f T C
theorem k118c_ok : GamOK Try.prog k118c := by
  intro f T C r outs h
  unfold k118c at h
  cases hf : Nat.beq f 118 with
  | false => rw [hf] at h; exact k118s_ok f T C r outs h
  | true =>
    have hf' := Nat.eq_of_beq_eq_true hf
    subst hf'
    rw [hf] at h
    dsimp only at h
    cases hs : sp118c T C with
    | none => rw [hs] at h; exact k118s_ok _ T C r outs h
    | some x =>
      rw [hs] at h
      have hx : x = (true, r, outs) := by simpa using h
      subst hx
      unfold sp118c at hs
      split at hs
      · rename_i t es
        injection hs with hs
        injection hs with hb hs
        injection hs with e1 e2
        subst e1 e2
        have hb := Nat.le_of_ble_eq_true hb
        have h1 := fn_ok mixed plain (gk_ok k111c_ok 30) Try.func118 (fun c _ => LoopsOK.none (fun _ _ => rfl) c) ev118n
        have he := ev118s es
        have hok : vev118s_1 es = true := by
          unfold vev118s_1
          rw [decide_eq_true (show (0 + es.length) * 16 ≤ 140737488355328 by omega), decide_eq_true (show 0 + es.length ≤ 9223372036854775807 by omega)]
          rfl
        rw [hok, cond_true] at he
        have h2 := fn_ok mixed plain (gk_ok k118n_ok 30) Try.func118 (fun c _ => LoopsOK.none (fun _ _ => rfl) c) he
        exact ⟨h1.1, clone_ok (by decide) h1.2 (fun h => h) h2.2 t⟩
      · cases hs
end Go.Proofs.Gv
