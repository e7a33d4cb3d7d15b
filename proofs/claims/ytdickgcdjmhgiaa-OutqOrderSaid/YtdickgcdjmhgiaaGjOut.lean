/-
What is known of the queue's functions, of lists that are nil too.
-/
import Derived.Test.YtdickgcdjmhgiaaGwD
import Derived.Test.YtdickgcdjmhgiaaGt
import Derived.KernelRfl
import Derived.Test.YtdickgcdjmhgiaaGhOut
namespace Go.Proofs.Gv
/-- A list that is nil, first in a struct, as a list of nothing. -/
def canS1 (zs : List Kd) : AV → AV
  | .agg (.nil :: r) => .agg (.sl .imm zs [] :: r)
  | x => x
def canS (zs : List Kd) (T : List AV) : List AV := T.map (canS1 zs)
theorem canS1_ok {zs : List Kd} {G : Gh} {w : World} {r : Bool} {x : AV} {v : Value} (h : V G w r x v) : V G w r (canS1 zs x) v := by
  unfold canS1
  split
  · rename_i l
    obtain ⟨vs, rfl, hl, hv⟩ := h.agg_inv
    refine .agg _ _ _ (by simpa using hl) fun i x v hx hv' => ?_
    cases i with
    | zero =>
      simp at hx
      subst hx
      have h0 := hv 0 .nil v rfl hv'
      cases h0
      exact .slnil _ _ _ _ _ (fun _ => rfl) (by simp [maxLen]) (fun h => by cases h)
    | succ i => exact hv (i + 1) x v (by simpa using hx) hv'
  · exact h
theorem FnOK.canS {P : Program} {f : FuncId} {zs : List Kd} {T0 : List AV} {C0 : List Blk} {r : AV} {outs : List Blk} (h : FnOK P f (canS zs T0) C0 r outs) : FnOK P f T0 C0 r outs := by
  intro B vals w G hr e0 e1 e2 e3
  refine h B vals w G ⟨hr.defers, by simpa [Gv.canS] using hr.len, fun i x v hx hv => ?_, hr.vb, hr.os, hr.tape, hr.output, hr.size, hr.par, hr.old⟩ e0 e1 e2 e3
  simp only [Gv.canS, List.getElem?_map] at hx
  cases hy : T0[i]? with
  | none => rw [hy] at hx; cases hx
  | some y =>
    rw [hy] at hx
    simp only [Option.map_some, Option.some.injEq] at hx
    subst hx
    exact canS1_ok (hr.vt i y v hy hv)
/-- What is known, of lists that are nil too. -/
def nilGam (zs : List Kd) (k : Gam) : Gam := fun f T C => (k f T C).or (k f (canS zs T) C)
theorem nilGam_ok {P : Program} {zs : List Kd} {k : Gam} (h : GamOK P k) : GamOK P (nilGam zs k) := by
  intro f T C r outs he
  unfold nilGam at he
  cases hk : k f T C with
  | some x =>
    have h' : some x = some (true, r, outs) := by simpa [hk] using he
    exact h f T C r outs (hk.trans h')
  | none =>
    have h' : k f (canS zs T) C = some (true, r, outs) := by simpa [hk] using he
    obtain ⟨h1, h2⟩ := h f _ C r outs h'
    exact ⟨h1, h2.canS⟩
end Go.Proofs.Gv

namespace Go.Proofs.Gv
open Go.Proofs
set_option linter.unusedVariables false
noncomputable def vev9t_0 (es : List (List AV)) (a : Int) (b : Int) (bs : List (List AV)) : List (List AV) := bif vev14_0 es a b != (0 : Int) then es else bif bif vev18_1 es a b then bif decide ((↑bs.length : Int) > vev18_0 es a b) then true else decide (a > IntKind.i64.wrap ((1099511627776 : Int) - (↑bs.length : Int))) else false then es else bif decide ((↑bs.length : Int) > (0 : Int)) then es ++ [[AV.str (List.map byteOf bs)]] else es
noncomputable def vev9t_1 (es : List (List AV)) (a : Int) (b : Int) (bs : List (List AV)) : Int := bif vev14_0 es a b != (0 : Int) then a else bif bif vev18_1 es a b then bif decide ((↑bs.length : Int) > vev18_0 es a b) then true else decide (a > IntKind.i64.wrap ((1099511627776 : Int) - (↑bs.length : Int))) else false then a else bif decide ((↑bs.length : Int) > (0 : Int)) then IntKind.i64.wrap (a + (↑bs.length : Int)) else a
noncomputable def vev9t_2 (es : List (List AV)) (a : Int) (b : Int) (bs : List (List AV)) : Int := bif vev14_0 es a b != (0 : Int) then vev14_0 es a b else bif bif vev18_1 es a b then bif decide ((↑bs.length : Int) > vev18_0 es a b) then true else decide (a > IntKind.i64.wrap ((1099511627776 : Int) - (↑bs.length : Int))) else false then (7 : Int) else (0 : Int)
noncomputable def vev9t_3 (es : List (List AV)) (a : Int) (b : Int) (bs : List (List AV)) : Bool := bif vev21_0 es a b then bif vev14_1 es a b then bif vev14_0 es a b != (0 : Int) then true else bif vev18_1 es a b then bif bif vev18_1 es a b then bif decide ((↑bs.length : Int) > vev18_0 es a b) then true else decide (a > IntKind.i64.wrap ((1099511627776 : Int) - (↑bs.length : Int))) else false then true else bif decide ((↑bs.length : Int) > (0 : Int)) then bif bs.all isB then bif bif decide ((es.length + (1 : Nat)) * (16 : Nat) ≤ (140737488355328 : Nat)) then decide (es.length + (1 : Nat) ≤ (9223372036854775807 : Nat)) else false then true else false else false else true else false else false else false
theorem ev9t (es : List (List AV)) (a : Int) (b : Int) (bs : List (List AV)) : evFin (cfg Try.prog tab 100000 (gk k13t 30) noLsp 9 ([] : List Blk).length Try.f9.ntmps) ([] : List Blk).length Try.f9.resultTypes.toList Try.f9 [.agg [.sl .imm [.str] es, .int .i64 a, .int .i64 b], .sl .lent [.int .u8] bs] [] = bif vev9t_3 es a b bs then some (true, AV.tup [AV.agg [AV.sl Tk.imm [Kd.str] (vev9t_0 es a b bs), AV.int IntKind.i64 (vev9t_1 es a b bs), AV.int IntKind.i64 b], AV.int IntKind.i64 (vev9t_2 es a b bs)], []) else none := by
  have h : evFin (cfg Try.prog tab 100000 (gk k13t 30) noLsp 9 ([] : List Blk).length Try.f9.ntmps) ([] : List Blk).length Try.f9.resultTypes.toList Try.f9 [.agg [.sl .imm [.str] es, .int .i64 a, .int .i64 b], .sl .lent [.int .u8] bs] [] = bif vev21_0 es a b then bif vev14_1 es a b then bif vev14_0 es a b != (0 : Int) then some (true, AV.tup [AV.agg [AV.sl Tk.imm [Kd.str] es, AV.int IntKind.i64 a, AV.int IntKind.i64 b], AV.int IntKind.i64 (vev14_0 es a b)], []) else bif bif vev18_1 es a b then bif decide ((↑bs.length : Int) > vev18_0 es a b) then true else true else false then bif bif vev18_1 es a b then bif decide ((↑bs.length : Int) > vev18_0 es a b) then true else bif false then true else decide (a > IntKind.i64.wrap ((1099511627776 : Int) - (↑bs.length : Int))) else false then some (true, AV.tup [AV.agg [AV.sl Tk.imm [Kd.str] es, AV.int IntKind.i64 a, AV.int IntKind.i64 b], AV.int IntKind.i64 (7 : Int)], []) else bif decide ((↑bs.length : Int) > (0 : Int)) then bif bs.all isB then bif bif decide ((es.length + (1 : Nat)) * (16 : Nat) ≤ (140737488355328 : Nat)) then decide (es.length + (1 : Nat) ≤ (9223372036854775807 : Nat)) else false then some (true, AV.tup [AV.agg [AV.sl Tk.imm [Kd.str] (es ++ [[AV.str (List.map byteOf bs)]]), AV.int IntKind.i64 (IntKind.i64.wrap (a + (↑bs.length : Int))), AV.int IntKind.i64 b], AV.int IntKind.i64 (0 : Int)], []) else none else none else some (true, AV.tup [AV.agg [AV.sl Tk.imm [Kd.str] es, AV.int IntKind.i64 a, AV.int IntKind.i64 b], AV.int IntKind.i64 (0 : Int)], []) else none else none else none := by kernel_rfl
  rw [h]
  clear h
  unfold vev9t_0 vev9t_1 vev9t_2 vev9t_3
  generalize (decide ((es.length + (1 : Nat)) * (16 : Nat) ≤ (140737488355328 : Nat))) = c0
  generalize (decide (a > IntKind.i64.wrap ((1099511627776 : Int) - (↑bs.length : Int)))) = c1
  generalize (decide (es.length + (1 : Nat) ≤ (9223372036854775807 : Nat))) = c2
  generalize (decide ((↑bs.length : Int) > (0 : Int))) = c3
  generalize (decide ((↑bs.length : Int) > vev18_0 es a b)) = c4
  generalize (vev14_0 es a b != (0 : Int)) = c5
  generalize (bs.all isB) = c6
  generalize (vev21_0 es a b) = c7
  generalize (vev14_1 es a b) = c8
  generalize (vev18_1 es a b) = c9
  cases c7
  · skip
    rfl
  · skip
    cases c8
    · skip
      rfl
    · skip
      cases c5
      · skip
        cases c9
        · skip
          rfl
        · skip
          cases c4
          · skip
            cases c1
            · skip
              cases c3
              · skip
                rfl
              · skip
                cases c6
                · skip
                  rfl
                · skip
                  cases c0
                  · skip
                    rfl
                  · skip
                    cases c2
                    · skip
                      rfl
                    · skip
                      rfl
            · skip
              rfl
          · skip
            rfl
      · skip
        rfl
-- spec vev9t_3 es a b bs ;; (true, AV.tup [AV.agg [AV.sl Tk.imm [Kd.str] (vev9t_0 es a b bs), AV.int IntKind.i64 (vev9t_1 es a b bs), AV.int IntKind.i64 b], AV.int IntKind.i64 (vev9t_2 es a b bs)], [])
noncomputable def sp9t : List AV → List Blk → Option (Bool × AV × List Blk)
  | [.agg [.sl .imm [.str] es, .int .i64 a, .int .i64 b], .sl .lent [.int .u8] bs], [] => spW (vev9t_3 es a b bs) (some ((true, AV.tup [AV.agg [AV.sl Tk.imm [Kd.str] (vev9t_0 es a b bs), AV.int IntKind.i64 (vev9t_1 es a b bs), AV.int IntKind.i64 b], AV.int IntKind.i64 (vev9t_2 es a b bs)], [])))
  | _, _ => none
noncomputable def k9t : Gam := fun f T C => match Nat.beq f 9 with
  | true => (sp9t T C).or (k13t f T C)
  | false => k13t f T C
theorem k9t_ok : GamOK Try.prog k9t := by
  intro f T C r outs h
  unfold k9t at h
  cases hf : Nat.beq f 9 with
  | false => rw [hf] at h; exact k13t_ok f T C r outs h
  | true =>
    have hf' := Nat.eq_of_beq_eq_true hf
    subst hf'
    rw [hf] at h
    dsimp only at h
    cases hs : sp9t T C with
    | none => rw [hs] at h; exact k13t_ok _ T C r outs h
    | some x =>
      rw [hs] at h
      have hx : x = (true, r, outs) := by simpa using h
      subst hx
      unfold sp9t at hs
      split at hs
      · rename_i es a b bs
        obtain ⟨hb, rfl, rfl⟩ := spT_inv hs
        have he := ev9t es a b bs
        rw [hb, cond_true] at he
        obtain ⟨r0, o0, h0, he⟩ := evFin_inv he
        obtain ⟨h1, h2⟩ := fn_ok mixed plain (gk_ok k13t_ok 30) Try.func9 (fun c _ => LoopsOK.none (fun _ _ => rfl) c) h0
        exact ⟨h1, h2.fin he⟩
      · cases hs
end Go.Proofs.Gv

namespace Go.Proofs.Gv
noncomputable def kO : Gam := nilGam [.str] k9t
theorem kO_ok : GamOK Try.prog kO := nilGam_ok k9t_ok
end Go.Proofs.Gv
