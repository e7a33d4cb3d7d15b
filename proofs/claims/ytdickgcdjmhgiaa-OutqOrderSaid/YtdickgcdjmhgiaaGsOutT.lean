import Derived.Test.YtdickgcdjmhgiaaGlOutT
namespace Go.Proofs.Gv
open Go.Proofs
set_option linter.unusedVariables false
noncomputable def VT13t (a : List (List AV) × Int × Int × List (List AV) × Int × Int × Nat) : List AV := [.hp 0 0, .hp 1 0, .int .i64 (.ofNat a.2.2.2.2.2.2)]
noncomputable def VC13t (a : List (List AV) × Int × Int × List (List AV) × Int × Int × Nat) : List Blk := [.var [.sl .lent [.str] a.1, .int .i64 a.2.1, .int .i64 a.2.2.1], .var [.sl .imm [.str] a.2.2.2.1, .int .i64 a.2.2.2.2.1, .int .i64 a.2.2.2.2.2.1]]
noncomputable def dec13t : List AV → List Blk → Option (List (List AV) × Int × Int × List (List AV) × Int × Int × Nat)
  | [.hp 0 0, .hp 1 0, .int .i64 (.ofNat i)], [.var [.sl .lent [.str] es, .int .i64 a, .int .i64 b], .var [.sl .imm [.str] es2, .int .i64 a2, .int .i64 b2]] => some (es, a, b, es2, a2, b2, i)
  | _, _ => none
noncomputable def sp13tL (a : List (List AV) × Int × Int × List (List AV) × Int × Int × Nat) : Bool × List (Bool × Ex × List AV × List Blk) × Ex × List AV × List Blk := (decide (a.1.length ≤ 9223372036854775807) && decide (a.1.length = a.2.2.2.1.length), [(missS (a.1.drop a.2.2.2.2.2.2) (a.2.2.2.1.drop a.2.2.2.2.2.2), .ret, [.bool false], [])], .exit 0, [.junk], [])
noncomputable def lsp13t : Lsp := fun i s => match Nat.beq i 4 with
  | true => lspOf [2, 3, 5] [0, 1] [4] [] Try.f13.ntmps (0 + tab.nid 13) dec13t sp13tL s
  | false => none
theorem lok13t (gam : Gam) : LoopOK1 (cfg Try.prog tab 100000 gam lsp13t 13 0 Try.f13.ntmps) (loopAt Try.f13 4) := by
  refine LoopOK1.of (i := 4) (by kernel_rfl) [2, 3, 5] [0, 1] [4] [] VT13t VC13t dec13t sp13tL (fun a => a.1.length - a.2.2.2.2.2.2) (fun s => rfl) (fun vt vc a h => ?_) (fun a ha => ?_)
  · unfold dec13t at h
    split at h
    · injection h with h
      subst h
      exact ⟨rfl, rfl⟩
    · cases h
  · obtain ⟨es, a, b, es2, a2, b2, i⟩ := a
    have hl : es.length ≤ 9223372036854775807 ∧ es.length = es2.length := by simpa only [sp13tL, decide_eq_true_eq, Bool.and_eq_true] using ha
    have hr := rd13_4t lsp13t gam es a b es2 a2 b2 i
    by_cases hi : i < es.length
    · have hi2 : i < es2.length := by omega
      rw [lt_dec hi, lt_dec hi2, nn_dec, Int.toNat_natCast, wrapN i es.length hi hl.1, Bool.and_self, cond_true, cond_true, cond_true] at hr
      have hd := drop_step (α := List AV) [] hi
      have hd2 := drop_step (α := List AV) [] hi2
      cases hc : (gS (es.getD i []) == gS (es2.getD i [])) with
      | false =>
        have hc' := hc
        unfold gS at hc'
        rw [hc', Bool.not_false, cond_true] at hr
        refine ⟨_, _, _, hr, ?_⟩
        simp only [sp13tL, hd, hd2, missS, hc, Bool.not_false, Bool.true_or, pickE, cond_true]
      | true =>
        have hc' := hc
        unfold gS at hc'
        rw [hc', Bool.not_true, cond_false] at hr
        refine ⟨_, _, _, hr, (es, a, b, es2, a2, b2, i + 1), rfl, rfl, ha, ?_, by simp only; omega⟩
        simp only [sp13tL, hd, hd2, missS, hc, Bool.not_true, Bool.false_or]
    · rw [ge_dec hi, cond_false] at hr
      refine ⟨_, _, _, hr, ?_⟩
      simp only [sp13tL, List.drop_eq_nil_of_le (Nat.le_of_not_lt hi), missS, pickE, cond_false]
theorem loops13t (gam : Gam) : ∀ c, Try.f13.body = some c → LoopsOK (cfg Try.prog tab 100000 gam lsp13t 13 ([] : List Blk).length Try.f13.ntmps) c := loops_one (i := 4) (by kernel_rfl) (lok13t gam)
end Go.Proofs.Gv
