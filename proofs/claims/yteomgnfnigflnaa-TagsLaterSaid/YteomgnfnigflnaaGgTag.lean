import Derived.Test.YteomgnfnigflnaaGt
import Derived.KernelRfl
import Derived.Test.YteomgnfnigflnaaGsRun
import Derived.Test.YteomgnfnigflnaaGfTag
namespace Go.Proofs.Gv
open Go.Proofs
set_option linter.unusedVariables false
noncomputable def vev18_0 (es : List (List AV)) (cs : List (List AV)) : List (List AV) := runE18 es (List.drop (nat_lit 0) cs)
noncomputable def vev18_1 (es : List (List AV)) (cs : List (List AV)) : List (List AV) := [] ++ runW18 es (List.drop (nat_lit 0) cs)
noncomputable def vev18_2 (es : List (List AV)) (cs : List (List AV)) : Bool := bif (es.length * (32 : Nat)).ble (140737488355328 : Nat) then bif (sp18L (es, cs, [], (↑cs.length : Int), nat_lit 0)).fst then true else false else false
theorem ev18 (es : List (List AV)) (cs : List (List AV)) : evFun (cfg Try.prog tab 100000 (gk k27 30) lsp18 18 ([] : List Blk).length Try.f18.ntmps) Try.f18 [.sl .imm [.int .i64, .int .i64, .int .i64, .int .i64] es, .sl .imm [.int .i64] cs] [] = bif vev18_2 es cs then some (AV.tup [AV.rf (nat_lit 0) [Kd.int IntKind.i64, Kd.int IntKind.i64, Kd.int IntKind.i64, Kd.int IntKind.i64], AV.rf (nat_lit 1) [Kd.int IntKind.i64]], [Blk.row [Kd.int IntKind.i64, Kd.int IntKind.i64, Kd.int IntKind.i64, Kd.int IntKind.i64] (vev18_0 es cs), Blk.row [Kd.int IntKind.i64] (vev18_1 es cs)]) else none := by
  have h : evFun (cfg Try.prog tab 100000 (gk k27 30) lsp18 18 ([] : List Blk).length Try.f18.ntmps) Try.f18 [.sl .imm [.int .i64, .int .i64, .int .i64, .int .i64] es, .sl .imm [.int .i64] cs] [] = bif (es.length * (32 : Nat)).ble (140737488355328 : Nat) then bif (sp18L (es, cs, [], (↑cs.length : Int), nat_lit 0)).fst then some (AV.tup [AV.rf (nat_lit 0) [Kd.int IntKind.i64, Kd.int IntKind.i64, Kd.int IntKind.i64, Kd.int IntKind.i64], AV.rf (nat_lit 1) [Kd.int IntKind.i64]], [Blk.row [Kd.int IntKind.i64, Kd.int IntKind.i64, Kd.int IntKind.i64, Kd.int IntKind.i64] (runE18 es (List.drop (nat_lit 0) cs)), Blk.row [Kd.int IntKind.i64] ([] ++ runW18 es (List.drop (nat_lit 0) cs))]) else none else none := by kernel_rfl
  rw [h]
  clear h
  unfold vev18_0 vev18_1 vev18_2
  generalize ((sp18L (es, cs, [], (↑cs.length : Int), nat_lit 0)).fst) = c0
  generalize ((es.length * (32 : Nat)).ble (140737488355328 : Nat)) = c1
  cases c1
  · skip
    rfl
  · skip
    cases c0
    · skip
      rfl
    · skip
      rfl
-- spec vev18_2 es cs ;; (AV.tup [AV.rf (nat_lit 0) [Kd.int IntKind.i64, Kd.int IntKind.i64, Kd.int IntKind.i64, Kd.int IntKind.i64], AV.rf (nat_lit 1) [Kd.int IntKind.i64]], [Blk.row [Kd.int IntKind.i64, Kd.int IntKind.i64, Kd.int IntKind.i64, Kd.int IntKind.i64] (vev18_0 es cs), Blk.row [Kd.int IntKind.i64] (vev18_1 es cs)])
noncomputable def sp18 : List AV → List Blk → Option (Bool × AV × List Blk)
  | [.sl .imm [.int .i64, .int .i64, .int .i64, .int .i64] es, .sl .imm [.int .i64] cs], [] => spW (vev18_2 es cs) (fin Try.prog (tab.frz 18) ([] : List Blk).length Try.f18.resultTypes.toList (some ((AV.tup [AV.rf (nat_lit 0) [Kd.int IntKind.i64, Kd.int IntKind.i64, Kd.int IntKind.i64, Kd.int IntKind.i64], AV.rf (nat_lit 1) [Kd.int IntKind.i64]], [Blk.row [Kd.int IntKind.i64, Kd.int IntKind.i64, Kd.int IntKind.i64, Kd.int IntKind.i64] (vev18_0 es cs), Blk.row [Kd.int IntKind.i64] (vev18_1 es cs)]))))
  | _, _ => none
noncomputable def k18 : Gam := fun f T C => match Nat.beq f 18 with
  | true => (sp18 T C).or (k27 f T C)
  | false => k27 f T C
theorem k18_ok : GamOK Try.prog k18 := by
  intro f T C r outs h
  unfold k18 at h
  cases hf : Nat.beq f 18 with
  | false => rw [hf] at h; exact k27_ok f T C r outs h
  | true =>
    have hf' := Nat.eq_of_beq_eq_true hf
    subst hf'
    rw [hf] at h
    dsimp only at h
    cases hs : sp18 T C with
    | none => rw [hs] at h; exact k27_ok _ T C r outs h
    | some x =>
      rw [hs] at h
      have hx : x = (true, r, outs) := by simpa using h
      subst hx
      unfold sp18 at hs
      split at hs
      · rename_i es cs
        obtain ⟨hb, hs⟩ := spW_inv hs
        have he := ev18 es cs
        rw [hb, cond_true] at he
        obtain ⟨h1, h2⟩ := fn_ok mixed plain (gk_ok k27_ok 30) Try.func18 loops18 he
        exact ⟨h1, h2.fin hs⟩
      · cases hs
noncomputable def vev20_0 (es : List (List AV)) (cs : List (List AV)) : List (List AV) := runE20 es (List.drop (nat_lit 0) cs)
noncomputable def vev20_1 (es : List (List AV)) (cs : List (List AV)) : List (List AV) := [] ++ runW20 es (List.drop (nat_lit 0) cs)
noncomputable def vev20_2 (es : List (List AV)) (cs : List (List AV)) : Bool := bif bif decide (es.length * (32 : Nat) ≤ (140737488355328 : Nat)) then decide (es.length ≤ (9223372036854775807 : Nat)) else false then bif (sp20L (es, cs, [], nat_lit 0)).fst then true else false else false
theorem ev20 (es : List (List AV)) (cs : List (List AV)) : evFun (cfg Try.prog tab 100000 (gk k27 30) lsp20 20 ([] : List Blk).length Try.f20.ntmps) Try.f20 [.sl .imm [.int .i64, .int .i64, .int .i64, .int .i64] es, .sl .imm [.int .i64] cs] [] = bif vev20_2 es cs then some (AV.tup [AV.rf (nat_lit 0) [Kd.int IntKind.i64, Kd.int IntKind.i64, Kd.int IntKind.i64, Kd.int IntKind.i64], AV.rf (nat_lit 1) [Kd.int IntKind.i64]], [Blk.row [Kd.int IntKind.i64, Kd.int IntKind.i64, Kd.int IntKind.i64, Kd.int IntKind.i64] (vev20_0 es cs), Blk.row [Kd.int IntKind.i64] (vev20_1 es cs)]) else none := by
  have h : evFun (cfg Try.prog tab 100000 (gk k27 30) lsp20 20 ([] : List Blk).length Try.f20.ntmps) Try.f20 [.sl .imm [.int .i64, .int .i64, .int .i64, .int .i64] es, .sl .imm [.int .i64] cs] [] = bif bif decide (es.length * (32 : Nat) ≤ (140737488355328 : Nat)) then decide (es.length ≤ (9223372036854775807 : Nat)) else false then bif (sp20L (es, cs, [], nat_lit 0)).fst then some (AV.tup [AV.rf (nat_lit 0) [Kd.int IntKind.i64, Kd.int IntKind.i64, Kd.int IntKind.i64, Kd.int IntKind.i64], AV.rf (nat_lit 1) [Kd.int IntKind.i64]], [Blk.row [Kd.int IntKind.i64, Kd.int IntKind.i64, Kd.int IntKind.i64, Kd.int IntKind.i64] (runE20 es (List.drop (nat_lit 0) cs)), Blk.row [Kd.int IntKind.i64] ([] ++ runW20 es (List.drop (nat_lit 0) cs))]) else none else none := by kernel_rfl
  rw [h]
  clear h
  unfold vev20_0 vev20_1 vev20_2
  generalize ((sp20L (es, cs, [], nat_lit 0)).fst) = c0
  generalize (decide (es.length * (32 : Nat) ≤ (140737488355328 : Nat))) = c1
  generalize (decide (es.length ≤ (9223372036854775807 : Nat))) = c2
  cases c1
  · skip
    rfl
  · skip
    cases c2
    · skip
      rfl
    · skip
      cases c0
      · skip
        rfl
      · skip
        rfl
-- spec vev20_2 es cs ;; (AV.tup [AV.rf (nat_lit 0) [Kd.int IntKind.i64, Kd.int IntKind.i64, Kd.int IntKind.i64, Kd.int IntKind.i64], AV.rf (nat_lit 1) [Kd.int IntKind.i64]], [Blk.row [Kd.int IntKind.i64, Kd.int IntKind.i64, Kd.int IntKind.i64, Kd.int IntKind.i64] (vev20_0 es cs), Blk.row [Kd.int IntKind.i64] (vev20_1 es cs)])
noncomputable def sp20 : List AV → List Blk → Option (Bool × AV × List Blk)
  | [.sl .imm [.int .i64, .int .i64, .int .i64, .int .i64] es, .sl .imm [.int .i64] cs], [] => spW (vev20_2 es cs) (fin Try.prog (tab.frz 20) ([] : List Blk).length Try.f20.resultTypes.toList (some ((AV.tup [AV.rf (nat_lit 0) [Kd.int IntKind.i64, Kd.int IntKind.i64, Kd.int IntKind.i64, Kd.int IntKind.i64], AV.rf (nat_lit 1) [Kd.int IntKind.i64]], [Blk.row [Kd.int IntKind.i64, Kd.int IntKind.i64, Kd.int IntKind.i64, Kd.int IntKind.i64] (vev20_0 es cs), Blk.row [Kd.int IntKind.i64] (vev20_1 es cs)]))))
  | _, _ => none
noncomputable def k20 : Gam := fun f T C => match Nat.beq f 20 with
  | true => (sp20 T C).or (k18 f T C)
  | false => k18 f T C
theorem k20_ok : GamOK Try.prog k20 := by
  intro f T C r outs h
  unfold k20 at h
  cases hf : Nat.beq f 20 with
  | false => rw [hf] at h; exact k18_ok f T C r outs h
  | true =>
    have hf' := Nat.eq_of_beq_eq_true hf
    subst hf'
    rw [hf] at h
    dsimp only at h
    cases hs : sp20 T C with
    | none => rw [hs] at h; exact k18_ok _ T C r outs h
    | some x =>
      rw [hs] at h
      have hx : x = (true, r, outs) := by simpa using h
      subst hx
      unfold sp20 at hs
      split at hs
      · rename_i es cs
        obtain ⟨hb, hs⟩ := spW_inv hs
        have he := ev20 es cs
        rw [hb, cond_true] at he
        obtain ⟨h1, h2⟩ := fn_ok mixed plain (gk_ok k27_ok 30) Try.func20 loops20 he
        exact ⟨h1, h2.fin hs⟩
      · cases hs
end Go.Proofs.Gv
