import Derived.Test.YtdickgcdjmhgiaaGt
import Derived.KernelRfl
import Derived.Test.YtdickgcdjmhgiaaGsOutT
import Derived.Test.YtdickgcdjmhgiaaGgOut
namespace Go.Proofs.Gv
open Go.Proofs
set_option linter.unusedVariables false
noncomputable def vev13t_0 (es : List (List AV)) (a : Int) (b : Int) (es2 : List (List AV)) (a2 : Int) (b2 : Int) : Bool := bif bif a != a2 then true else bif b != b2 then true else (↑es.length : Int) != (↑es2.length : Int) then false else bif missS (List.drop (nat_lit 0) es) (List.drop (nat_lit 0) es2) then false else true
noncomputable def vev13t_1 (es : List (List AV)) (a : Int) (b : Int) (es2 : List (List AV)) (a2 : Int) (b2 : Int) : Bool := bif bif a != a2 then true else bif b != b2 then true else (↑es.length : Int) != (↑es2.length : Int) then true else bif (sp13tL (es, a, b, es2, a2, b2, nat_lit 0)).fst then true else false
theorem ev13t (es : List (List AV)) (a : Int) (b : Int) (es2 : List (List AV)) (a2 : Int) (b2 : Int) : evFun (cfg Try.prog tab 100000 (gk k11 30) lsp13t 13 ([] : List Blk).length Try.f13.ntmps) Try.f13 [.agg [.sl .lent [.str] es, .int .i64 a, .int .i64 b], .agg [.sl .imm [.str] es2, .int .i64 a2, .int .i64 b2]] [] = bif vev13t_1 es a b es2 a2 b2 then some (AV.bool (vev13t_0 es a b es2 a2 b2), []) else none := by
  have h : evFun (cfg Try.prog tab 100000 (gk k11 30) lsp13t 13 ([] : List Blk).length Try.f13.ntmps) Try.f13 [.agg [.sl .lent [.str] es, .int .i64 a, .int .i64 b], .agg [.sl .imm [.str] es2, .int .i64 a2, .int .i64 b2]] [] = bif bif a != a2 then true else bif bif false then true else b != b2 then true else true then bif bif a != a2 then true else bif bif false then true else b != b2 then true else bif false then true else (↑es.length : Int) != (↑es2.length : Int) then some (AV.bool false, []) else bif (sp13tL (es, a, b, es2, a2, b2, nat_lit 0)).fst then bif missS (List.drop (nat_lit 0) es) (List.drop (nat_lit 0) es2) then some (AV.bool false, []) else some (AV.bool true, []) else none else none := by kernel_rfl
  rw [h]
  clear h
  unfold vev13t_0 vev13t_1
  generalize ((sp13tL (es, a, b, es2, a2, b2, nat_lit 0)).fst) = c0
  generalize ((↑es.length : Int) != (↑es2.length : Int)) = c1
  generalize (missS (List.drop (nat_lit 0) es) (List.drop (nat_lit 0) es2)) = c2
  generalize (a != a2) = c3
  generalize (b != b2) = c4
  cases c3
  · skip
    cases c4
    · skip
      cases c1
      · skip
        cases c0
        · skip
          rfl
        · skip
          cases c2
          · skip
            rfl
          · skip
            rfl
      · skip
        rfl
    · skip
      rfl
  · skip
    rfl
-- spec vev13t_1 es a b es2 a2 b2 ;; (AV.bool (vev13t_0 es a b es2 a2 b2), [])
noncomputable def sp13t : List AV → List Blk → Option (Bool × AV × List Blk)
  | [.agg [.sl .lent [.str] es, .int .i64 a, .int .i64 b], .agg [.sl .imm [.str] es2, .int .i64 a2, .int .i64 b2]], [] => spW (vev13t_1 es a b es2 a2 b2) (fin Try.prog (tab.frz 13) ([] : List Blk).length Try.f13.resultTypes.toList (some ((AV.bool (vev13t_0 es a b es2 a2 b2), []))))
  | _, _ => none
noncomputable def k13t : Gam := fun f T C => match Nat.beq f 13 with
  | true => (sp13t T C).or (k11 f T C)
  | false => k11 f T C
theorem k13t_ok : GamOK Try.prog k13t := by
  intro f T C r outs h
  unfold k13t at h
  cases hf : Nat.beq f 13 with
  | false => rw [hf] at h; exact k11_ok f T C r outs h
  | true =>
    have hf' := Nat.eq_of_beq_eq_true hf
    subst hf'
    rw [hf] at h
    dsimp only at h
    cases hs : sp13t T C with
    | none => rw [hs] at h; exact k11_ok _ T C r outs h
    | some x =>
      rw [hs] at h
      have hx : x = (true, r, outs) := by simpa using h
      subst hx
      unfold sp13t at hs
      split at hs
      · rename_i es a b es2 a2 b2
        obtain ⟨hb, hs⟩ := spW_inv hs
        have he := ev13t es a b es2 a2 b2
        rw [hb, cond_true] at he
        obtain ⟨h1, h2⟩ := fn_ok mixed plain (gk_ok k11_ok 30) Try.func13 (loops13t (gk k11 30)) he
        exact ⟨h1, h2.fin hs⟩
      · cases hs
end Go.Proofs.Gv
