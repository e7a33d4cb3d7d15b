import Derived.Test.YtogfdnopjgpdiaaGt
import Derived.KernelRfl
import Derived.Test.YtogfdnopjgpdiaaGwD
import Derived.Test.YtogfdnopjgpdiaaGaUn
import Derived.Test.YtogfdnopjgpdiaaGwF
namespace Go.Proofs.Gv
open Go.Proofs
set_option linter.unusedVariables false
theorem mixed : Try.prog.follows .mixedOrders = true := by kernel_rfl
theorem plain : plainNames Try.prog = true := by kernel_rfl
def k0 : Gam := fun _ _ _ => none
theorem k0_ok : GamOK Try.prog k0 := GamOK.none _
noncomputable abbrev gk (k : Gam) : Nat → Gam := gamN Try.prog tab 100000 k
theorem gk_ok {k : Gam} (h : GamOK Try.prog k) (d : Nat) : GamOK Try.prog (gk k d) := gamN_ok mixed plain h d
def spW (ok : Bool) (x : Option (Bool × AV × List Blk)) : Option (Bool × AV × List Blk) :=
  match x with
  | some (_, r, o) => some (ok, r, o)
  | none => none
theorem fin_some {P : Program} {frz : Bool} {m : Nat} {ts : List TypeId} {x : Option (AV × List Blk)} {b : Bool} {r : AV} {o : List Blk} (h : fin P frz m ts x = some (b, r, o)) : ∃ r0 o0, x = some (r0, o0) := by
  cases x with
  | none => cases h
  | some p => exact ⟨p.1, p.2, rfl⟩
theorem spT_inv {ok b' : Bool} {r r' : AV} {o o' : List Blk} (h : spW ok (some (b', r', o')) = some (true, r, o)) : ok = true ∧ r' = r ∧ o' = o := by
  unfold spW at h
  injection h with h
  injection h with h1 h
  injection h with h2 h3
  exact ⟨h1, h2, h3⟩
theorem fin_true {P : Program} {frz : Bool} {m : Nat} {ts : List TypeId} {x : Option (AV × List Blk)} {b : Bool} {r : AV} {o : List Blk} (h : fin P frz m ts x = some (b, r, o)) : b = true := by
  unfold fin at h
  split at h
  · split at h <;> (injection h with h; injection h with h; exact h.symm)
  · cases h
theorem spW_inv {P : Program} {frz : Bool} {m : Nat} {ts : List TypeId} {x : Option (AV × List Blk)} {ok : Bool} {r : AV} {o : List Blk} (h : spW ok (fin P frz m ts x) = some (true, r, o)) : ok = true ∧ fin P frz m ts x = some (true, r, o) := by
  unfold spW at h
  split at h
  · rename_i b r' o' he
    injection h with h
    injection h with h1 h
    injection h with h2 h3
    subst h1 h2 h3
    have := fin_true he
    subst this
    exact ⟨rfl, he⟩
  · cases h
noncomputable def sp21 : List AV → List Blk → Option (Bool × AV × List Blk)
  | [.sl _ [.sl [.int .u16, .int .u32], .int .i64] es, .int .u16 id, .int .i64 held], [] => some (true, .int .i64 (leastL id held es), [])
  | _, _ => none
noncomputable def sp23 : List AV → List Blk → Option (Bool × AV × List Blk)
  | [.sl _ [.sl [.int .u16, .int .u32], .int .i64] es, .int .u16 id, .int .i64 held], [] => some (true, .int .i64 (greatestL id held es), [])
  | _, _ => none
noncomputable def k21 : Gam := fun f T C => match Nat.beq f 21 with
  | true => (sp21 T C).or (k0 f T C)
  | false => k0 f T C
noncomputable def k23 : Gam := fun f T C => match Nat.beq f 23 with
  | true => (sp23 T C).or (k21 f T C)
  | false => k21 f T C
theorem k21_ok : GamOK Try.prog k21 := by
  intro f T C r outs h
  unfold k21 at h
  cases hf : Nat.beq f 21 with
  | false => rw [hf] at h; exact k0_ok f T C r outs h
  | true =>
    have hf' := Nat.eq_of_beq_eq_true hf
    subst hf'
    rw [hf] at h
    dsimp only at h
    cases hs : sp21 T C with
    | none => rw [hs] at h; exact k0_ok _ T C r outs h
    | some x =>
      rw [hs] at h
      have hx : x = (true, r, outs) := by simpa using h
      subst hx
      unfold sp21 at hs
      split at hs
      · injection hs with hs
        injection hs with hb hs
        injection hs with e1 e2
        subst e1 e2
        exact ⟨enters_of Try.func21 (by kernel_rfl) rfl, least_ok _ _ _ _⟩
      · cases hs
theorem k23_ok : GamOK Try.prog k23 := by
  intro f T C r outs h
  unfold k23 at h
  cases hf : Nat.beq f 23 with
  | false => rw [hf] at h; exact k21_ok f T C r outs h
  | true =>
    have hf' := Nat.eq_of_beq_eq_true hf
    subst hf'
    rw [hf] at h
    dsimp only at h
    cases hs : sp23 T C with
    | none => rw [hs] at h; exact k21_ok _ T C r outs h
    | some x =>
      rw [hs] at h
      have hx : x = (true, r, outs) := by simpa using h
      subst hx
      unfold sp23 at hs
      split at hs
      · injection hs with hs
        injection hs with hb hs
        injection hs with e1 e2
        subst e1 e2
        exact ⟨enters_of Try.func23 (by kernel_rfl) rfl, greatest_ok _ _ _ _⟩
      · cases hs
theorem ev28n : evFin (cfg Try.prog tab 100000 (gk k23 30) noLsp 28 ([] : List Blk).length Try.f28.ntmps) ([] : List Blk).length Try.f28.resultTypes.toList Try.f28 [.nil] [] = some (true, AV.sl Tk.imm [Kd.int IntKind.u16, Kd.int IntKind.u32] [], []) := by kernel_rfl
-- spec true ;; (true, AV.sl Tk.imm [Kd.int IntKind.u16, Kd.int IntKind.u32] [], [])
noncomputable def sp28n : List AV → List Blk → Option (Bool × AV × List Blk)
  | [.nil], [] => spW (true) (some ((true, AV.sl Tk.imm [Kd.int IntKind.u16, Kd.int IntKind.u32] [], [])))
  | _, _ => none
noncomputable def k28n : Gam := fun f T C => match Nat.beq f 28 with
  | true => (sp28n T C).or (k23 f T C)
  | false => k23 f T C
theorem k28n_ok : GamOK Try.prog k28n := by
  intro f T C r outs h
  unfold k28n at h
  cases hf : Nat.beq f 28 with
  | false => rw [hf] at h; exact k23_ok f T C r outs h
  | true =>
    have hf' := Nat.eq_of_beq_eq_true hf
    subst hf'
    rw [hf] at h
    dsimp only at h
    cases hs : sp28n T C with
    | none => rw [hs] at h; exact k23_ok _ T C r outs h
    | some x =>
      rw [hs] at h
      have hx : x = (true, r, outs) := by simpa using h
      subst hx
      unfold sp28n at hs
      split at hs
      · obtain ⟨hb, rfl, rfl⟩ := spT_inv hs
        have he := ev28n 
        obtain ⟨r0, o0, h0, he⟩ := evFin_inv he
        obtain ⟨h1, h2⟩ := fn_ok mixed plain (gk_ok k23_ok 30) Try.func28 (fun c _ => LoopsOK.none (fun _ _ => rfl) c) h0
        exact ⟨h1, h2.fin he⟩
      · cases hs
noncomputable def vev28s_0 (es : List (List AV)) : List (List AV) := [] ++ es
noncomputable def vev28s_1 (es : List (List AV)) : Bool := bif bif decide (((0 : Nat) + es.length) * (8 : Nat) ≤ (140737488355328 : Nat)) then decide ((0 : Nat) + es.length ≤ (9223372036854775807 : Nat)) else false then true else false
theorem ev28s (es : List (List AV)) : evFin (cfg Try.prog tab 100000 (gk k28n 30) noLsp 28 ([] : List Blk).length Try.f28.ntmps) ([] : List Blk).length Try.f28.resultTypes.toList Try.f28 [.sl .nn [.int .u16, .int .u32] es] [] = bif vev28s_1 es then some (true, AV.sl Tk.imm [Kd.int IntKind.u16, Kd.int IntKind.u32] (vev28s_0 es), []) else none := by
  have h : evFin (cfg Try.prog tab 100000 (gk k28n 30) noLsp 28 ([] : List Blk).length Try.f28.ntmps) ([] : List Blk).length Try.f28.resultTypes.toList Try.f28 [.sl .nn [.int .u16, .int .u32] es] [] = bif bif decide (((0 : Nat) + es.length) * (8 : Nat) ≤ (140737488355328 : Nat)) then decide ((0 : Nat) + es.length ≤ (9223372036854775807 : Nat)) else false then some (true, AV.sl Tk.imm [Kd.int IntKind.u16, Kd.int IntKind.u32] ([] ++ es), []) else none := by kernel_rfl
  rw [h]
  clear h
  unfold vev28s_0 vev28s_1
  generalize (decide (((0 : Nat) + es.length) * (8 : Nat) ≤ (140737488355328 : Nat))) = c0
  generalize (decide ((0 : Nat) + es.length ≤ (9223372036854775807 : Nat))) = c1
  cases c0
  · skip
    rfl
  · skip
    cases c1
    · skip
      rfl
    · skip
      rfl
-- spec vev28s_1 es ;; (true, AV.sl Tk.imm [Kd.int IntKind.u16, Kd.int IntKind.u32] (vev28s_0 es), [])
noncomputable def sp28s : List AV → List Blk → Option (Bool × AV × List Blk)
  | [.sl .nn [.int .u16, .int .u32] es], [] => spW (vev28s_1 es) (some ((true, AV.sl Tk.imm [Kd.int IntKind.u16, Kd.int IntKind.u32] (vev28s_0 es), [])))
  | _, _ => none
noncomputable def k28s : Gam := fun f T C => match Nat.beq f 28 with
  | true => (sp28s T C).or (k28n f T C)
  | false => k28n f T C
theorem k28s_ok : GamOK Try.prog k28s := by
  intro f T C r outs h
  unfold k28s at h
  cases hf : Nat.beq f 28 with
  | false => rw [hf] at h; exact k28n_ok f T C r outs h
  | true =>
    have hf' := Nat.eq_of_beq_eq_true hf
    subst hf'
    rw [hf] at h
    dsimp only at h
    cases hs : sp28s T C with
    | none => rw [hs] at h; exact k28n_ok _ T C r outs h
    | some x =>
      rw [hs] at h
      have hx : x = (true, r, outs) := by simpa using h
      subst hx
      unfold sp28s at hs
      split at hs
      · rename_i es
        obtain ⟨hb, rfl, rfl⟩ := spT_inv hs
        have he := ev28s es
        rw [hb, cond_true] at he
        obtain ⟨r0, o0, h0, he⟩ := evFin_inv he
        obtain ⟨h1, h2⟩ := fn_ok mixed plain (gk_ok k28n_ok 30) Try.func28 (fun c _ => LoopsOK.none (fun _ _ => rfl) c) h0
        exact ⟨h1, h2.fin he⟩
      · cases hs
noncomputable def sp28c : List AV → List Blk → Option (Bool × AV × List Blk)
  | [.sl _ [.int .u16, .int .u32] es], [] => some (Nat.ble (es.length * 8) 140737488355328, .sl .imm [.int .u16, .int .u32] es, [])
  | _, _ => none
noncomputable def k28c : Gam := fun f T C => match Nat.beq f 28 with
  | true => (sp28c T C).or (k28s f T C)
  | false => k28s f T C
theorem k28c_ok : GamOK Try.prog k28c := by
  intro f T C r outs h
  unfold k28c at h
  cases hf : Nat.beq f 28 with
  | false => rw [hf] at h; exact k28s_ok f T C r outs h
  | true =>
    have hf' := Nat.eq_of_beq_eq_true hf
    subst hf'
    rw [hf] at h
    dsimp only at h
    cases hs : sp28c T C with
    | none => rw [hs] at h; exact k28s_ok _ T C r outs h
    | some x =>
      rw [hs] at h
      have hx : x = (true, r, outs) := by simpa using h
      subst hx
      unfold sp28c at hs
      split at hs
      · rename_i t es
        injection hs with hs
        injection hs with hb hs
        injection hs with e1 e2
        subst e1 e2
        have hb := Nat.le_of_ble_eq_true hb
        have hn := ev28n
        obtain ⟨r0, o0, g0, hn⟩ := evFin_inv hn
        have h1 := fn_ok mixed plain (gk_ok k23_ok 30) Try.func28 (fun c _ => LoopsOK.none (fun _ _ => rfl) c) g0
        have he := ev28s es
        have hok : vev28s_1 es = true := by
          unfold vev28s_1
          rw [decide_eq_true (show (0 + es.length) * 8 ≤ 140737488355328 by omega), decide_eq_true (show 0 + es.length ≤ 9223372036854775807 by omega)]
          rfl
        rw [hok, cond_true] at he
        obtain ⟨r1, o1, g1, he⟩ := evFin_inv he
        have h2 := fn_ok mixed plain (gk_ok k28n_ok 30) Try.func28 (fun c _ => LoopsOK.none (fun _ _ => rfl) c) g1
        exact ⟨h1.1, cloneI_ok (h1.2.fin hn) (h2.2.fin he) t⟩
      · cases hs
theorem ev40n : evFun (cfg Try.prog tab 100000 (gk k28c 30) noLsp 40 ([] : List Blk).length Try.f40.ntmps) Try.f40 [.nil] [] = some (AV.nil, []) := by kernel_rfl
-- spec true ;; (AV.nil, [])
noncomputable def sp40n : List AV → List Blk → Option (Bool × AV × List Blk)
  | [.nil], [] => spW (true) (fin Try.prog (tab.frz 40) ([] : List Blk).length Try.f40.resultTypes.toList (some ((AV.nil, []))))
  | _, _ => none
noncomputable def k40n : Gam := fun f T C => match Nat.beq f 40 with
  | true => (sp40n T C).or (k28c f T C)
  | false => k28c f T C
theorem k40n_ok : GamOK Try.prog k40n := by
  intro f T C r outs h
  unfold k40n at h
  cases hf : Nat.beq f 40 with
  | false => rw [hf] at h; exact k28c_ok f T C r outs h
  | true =>
    have hf' := Nat.eq_of_beq_eq_true hf
    subst hf'
    rw [hf] at h
    dsimp only at h
    cases hs : sp40n T C with
    | none => rw [hs] at h; exact k28c_ok _ T C r outs h
    | some x =>
      rw [hs] at h
      have hx : x = (true, r, outs) := by simpa using h
      subst hx
      unfold sp40n at hs
      split at hs
      · obtain ⟨hb, hs⟩ := spW_inv hs
        have he := ev40n 
        obtain ⟨h1, h2⟩ := fn_ok mixed plain (gk_ok k28c_ok 30) Try.func40 (fun c _ => LoopsOK.none (fun _ _ => rfl) c) he
        exact ⟨h1, h2.fin hs⟩
      · cases hs
noncomputable def vev40s_0 (es : List (List AV)) : List (List AV) := [] ++ es
noncomputable def vev40s_1 (es : List (List AV)) : Bool := bif bif decide (((0 : Nat) + es.length) * (32 : Nat) ≤ (140737488355328 : Nat)) then decide ((0 : Nat) + es.length ≤ (9223372036854775807 : Nat)) else false then true else false
theorem ev40s (es : List (List AV)) : evFun (cfg Try.prog tab 100000 (gk k40n 30) noLsp 40 ([] : List Blk).length Try.f40.ntmps) Try.f40 [.sl .nn [.sl [.int .u16, .int .u32], .int .i64] es] [] = bif vev40s_1 es then some (AV.rf (nat_lit 0) [Kd.sl [Kd.int IntKind.u16, Kd.int IntKind.u32], Kd.int IntKind.i64], [Blk.row [Kd.sl [Kd.int IntKind.u16, Kd.int IntKind.u32], Kd.int IntKind.i64] (vev40s_0 es)]) else none := by
  have h : evFun (cfg Try.prog tab 100000 (gk k40n 30) noLsp 40 ([] : List Blk).length Try.f40.ntmps) Try.f40 [.sl .nn [.sl [.int .u16, .int .u32], .int .i64] es] [] = bif bif decide (((0 : Nat) + es.length) * (32 : Nat) ≤ (140737488355328 : Nat)) then decide ((0 : Nat) + es.length ≤ (9223372036854775807 : Nat)) else false then some (AV.rf (nat_lit 0) [Kd.sl [Kd.int IntKind.u16, Kd.int IntKind.u32], Kd.int IntKind.i64], [Blk.row [Kd.sl [Kd.int IntKind.u16, Kd.int IntKind.u32], Kd.int IntKind.i64] ([] ++ es)]) else none := by kernel_rfl
  rw [h]
  clear h
  unfold vev40s_0 vev40s_1
  generalize (decide (((0 : Nat) + es.length) * (32 : Nat) ≤ (140737488355328 : Nat))) = c0
  generalize (decide ((0 : Nat) + es.length ≤ (9223372036854775807 : Nat))) = c1
  cases c0
  · skip
    rfl
  · skip
    cases c1
    · skip
      rfl
    · skip
      rfl
-- spec vev40s_1 es ;; (AV.rf (nat_lit 0) [Kd.sl [Kd.int IntKind.u16, Kd.int IntKind.u32], Kd.int IntKind.i64], [Blk.row [Kd.sl [Kd.int IntKind.u16, Kd.int IntKind.u32], Kd.int IntKind.i64] (vev40s_0 es)])
noncomputable def sp40s : List AV → List Blk → Option (Bool × AV × List Blk)
  | [.sl .nn [.sl [.int .u16, .int .u32], .int .i64] es], [] => spW (vev40s_1 es) (fin Try.prog (tab.frz 40) ([] : List Blk).length Try.f40.resultTypes.toList (some ((AV.rf (nat_lit 0) [Kd.sl [Kd.int IntKind.u16, Kd.int IntKind.u32], Kd.int IntKind.i64], [Blk.row [Kd.sl [Kd.int IntKind.u16, Kd.int IntKind.u32], Kd.int IntKind.i64] (vev40s_0 es)]))))
  | _, _ => none
noncomputable def k40s : Gam := fun f T C => match Nat.beq f 40 with
  | true => (sp40s T C).or (k40n f T C)
  | false => k40n f T C
theorem k40s_ok : GamOK Try.prog k40s := by
  intro f T C r outs h
  unfold k40s at h
  cases hf : Nat.beq f 40 with
  | false => rw [hf] at h; exact k40n_ok f T C r outs h
  | true =>
    have hf' := Nat.eq_of_beq_eq_true hf
    subst hf'
    rw [hf] at h
    dsimp only at h
    cases hs : sp40s T C with
    | none => rw [hs] at h; exact k40n_ok _ T C r outs h
    | some x =>
      rw [hs] at h
      have hx : x = (true, r, outs) := by simpa using h
      subst hx
      unfold sp40s at hs
      split at hs
      · rename_i es
        obtain ⟨hb, hs⟩ := spW_inv hs
        have he := ev40s es
        rw [hb, cond_true] at he
        obtain ⟨h1, h2⟩ := fn_ok mixed plain (gk_ok k40n_ok 30) Try.func40 (fun c _ => LoopsOK.none (fun _ _ => rfl) c) he
        exact ⟨h1, h2.fin hs⟩
      · cases hs
noncomputable def sp40c : List AV → List Blk → Option (Bool × AV × List Blk)
  | [.sl _ [.sl [.int .u16, .int .u32], .int .i64] es], [] => some (Nat.ble (es.length * 32) 140737488355328, .rf 0 [.sl [.int .u16, .int .u32], .int .i64], [.row [.sl [.int .u16, .int .u32], .int .i64] es])
  | _, _ => none
noncomputable def k40c : Gam := fun f T C => match Nat.beq f 40 with
  | true => (sp40c T C).or (k40s f T C)
  | false => k40s f T C
theorem k40c_ok : GamOK Try.prog k40c := by
  intro f T C r outs h
  unfold k40c at h
  cases hf : Nat.beq f 40 with
  | false => rw [hf] at h; exact k40s_ok f T C r outs h
  | true =>
    have hf' := Nat.eq_of_beq_eq_true hf
    subst hf'
    rw [hf] at h
    dsimp only at h
    cases hs : sp40c T C with
    | none => rw [hs] at h; exact k40s_ok _ T C r outs h
    | some x =>
      rw [hs] at h
      have hx : x = (true, r, outs) := by simpa using h
      subst hx
      unfold sp40c at hs
      split at hs
      · rename_i t es
        injection hs with hs
        injection hs with hb hs
        injection hs with e1 e2
        subst e1 e2
        have hb := Nat.le_of_ble_eq_true hb
        have h1 := fn_ok mixed plain (gk_ok k28c_ok 30) Try.func40 (fun c _ => LoopsOK.none (fun _ _ => rfl) c) ev40n
        have he := ev40s es
        have hok : vev40s_1 es = true := by
          unfold vev40s_1
          rw [decide_eq_true (show (0 + es.length) * 32 ≤ 140737488355328 by omega), decide_eq_true (show 0 + es.length ≤ 9223372036854775807 by omega)]
          rfl
        rw [hok, cond_true] at he
        have h2 := fn_ok mixed plain (gk_ok k40n_ok 30) Try.func40 (fun c _ => LoopsOK.none (fun _ _ => rfl) c) he
        exact ⟨h1.1, clone_ok (by decide) h1.2 (fun h => h) h2.2 t⟩
      · cases hs
theorem aw8 : gk k40c 30 8 [] [] = some (true, .bool true, []) := by kernel_rfl
noncomputable def k8 : Gam := fun f T C => match Nat.beq f 8, T, C with
  | true, [], [] => some (true, .bool true, [])
  | _, T, C => k40c f T C
theorem k8_ok : GamOK Try.prog k8 := by
  intro f T C r outs h
  unfold k8 at h
  split at h
  · rename_i hf
    have hf' := Nat.eq_of_beq_eq_true hf
    subst hf'
    have hx : (true, AV.bool true, ([] : List Blk)) = (true, r, outs) := by simpa using h
    injection hx with _ hx
    injection hx with h1 h2
    subst h1 h2
    exact gk_ok k40c_ok 30 8 [] [] _ _ aw8
  · exact k40c_ok _ _ _ r outs h
end Go.Proofs.Gv
