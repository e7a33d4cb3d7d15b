import Derived.Test.YtdickgcdjmhgiaaGt
import Derived.KernelRfl
import Derived.Test.YtdickgcdjmhgiaaGsDr
import Derived.Test.YtdickgcdjmhgiaaGfOut
namespace Go.Proofs.Gv
open Go.Proofs
set_option linter.unusedVariables false
noncomputable def vev12_0 (es : List (List AV)) (a : Int) (b : Int) (n : Int) : List (List AV) := bif bif vev15_1 es a b then bif vev15_0 es a b != (0 : Int) then true else decide (n < (1 : Int)) else false then es else [] ++ rst12 n (0 : Nat) (List.drop (nat_lit 0) es)
noncomputable def vev12_1 (es : List (List AV)) (a : Int) (b : Int) (n : Int) : Int := bif bif vev15_1 es a b then bif vev15_0 es a b != (0 : Int) then true else decide (n < (1 : Int)) else false then b else IntKind.i64.wrap (b + (↑([] ++ List.map ofB (byt12 n (0 : Nat) (List.drop (nat_lit 0) es))).length : Int))
noncomputable def vev12_2 (es : List (List AV)) (a : Int) (b : Int) (n : Int) : List (List AV) := bif bif vev15_1 es a b then bif vev15_0 es a b != (0 : Int) then true else decide (n < (1 : Int)) else false then [] else [] ++ List.map ofB (byt12 n (0 : Nat) (List.drop (nat_lit 0) es))
noncomputable def vev12_3 (es : List (List AV)) (a : Int) (b : Int) (n : Int) : Bool := bif vev15_1 es a b then bif bif vev15_1 es a b then bif vev15_0 es a b != (0 : Int) then true else decide (n < (1 : Int)) else false then true else bif (sp12L (es, [], [], a, b, a, b, n, nat_lit 0)).fst then true else false else false
theorem ev12 (es : List (List AV)) (a : Int) (b : Int) (n : Int) : evFin (cfg Try.prog tab 100000 (gk k10 30) lsp12 12 ([] : List Blk).length Try.f12.ntmps) ([] : List Blk).length Try.f12.resultTypes.toList Try.f12 [.agg [.sl .imm [.str] es, .int .i64 a, .int .i64 b], .int .i64 n] [] = bif vev12_3 es a b n then some (true, AV.tup [AV.agg [AV.sl Tk.imm [Kd.str] (vev12_0 es a b n), AV.int IntKind.i64 a, AV.int IntKind.i64 (vev12_1 es a b n)], AV.sl Tk.imm [Kd.int IntKind.u8] (vev12_2 es a b n)], []) else none := by
  have h : evFin (cfg Try.prog tab 100000 (gk k10 30) lsp12 12 ([] : List Blk).length Try.f12.ntmps) ([] : List Blk).length Try.f12.resultTypes.toList Try.f12 [.agg [.sl .imm [.str] es, .int .i64 a, .int .i64 b], .int .i64 n] [] = bif bif vev15_1 es a b then bif vev15_0 es a b != (0 : Int) then true else true else false then bif bif vev15_1 es a b then bif vev15_0 es a b != (0 : Int) then true else bif false then true else decide (n < (1 : Int)) else false then some (true, AV.tup [AV.agg [AV.sl Tk.imm [Kd.str] es, AV.int IntKind.i64 a, AV.int IntKind.i64 b], AV.sl Tk.imm [Kd.int IntKind.u8] []], []) else bif (sp12L (es, [], [], a, b, a, b, n, nat_lit 0)).fst then some (true, AV.tup [AV.agg [AV.sl Tk.imm [Kd.str] ([] ++ rst12 n (0 : Nat) (List.drop (nat_lit 0) es)), AV.int IntKind.i64 a, AV.int IntKind.i64 (IntKind.i64.wrap (b + (↑([] ++ List.map ofB (byt12 n (0 : Nat) (List.drop (nat_lit 0) es))).length : Int)))], AV.sl Tk.imm [Kd.int IntKind.u8] ([] ++ List.map ofB (byt12 n (0 : Nat) (List.drop (nat_lit 0) es)))], []) else none else none := by kernel_rfl
  rw [h]
  clear h
  unfold vev12_0 vev12_1 vev12_2 vev12_3
  generalize ((sp12L (es, [], [], a, b, a, b, n, nat_lit 0)).fst) = c0
  generalize (decide (n < (1 : Int))) = c1
  generalize (vev15_0 es a b != (0 : Int)) = c2
  generalize (vev15_1 es a b) = c3
  cases c3
  · skip
    rfl
  · skip
    cases c2
    · skip
      cases c1
      · skip
        cases c0
        · skip
          rfl
        · skip
          rfl
      · skip
        rfl
    · skip
      rfl
-- spec vev12_3 es a b n ;; (true, AV.tup [AV.agg [AV.sl Tk.imm [Kd.str] (vev12_0 es a b n), AV.int IntKind.i64 a, AV.int IntKind.i64 (vev12_1 es a b n)], AV.sl Tk.imm [Kd.int IntKind.u8] (vev12_2 es a b n)], [])
noncomputable def sp12 : List AV → List Blk → Option (Bool × AV × List Blk)
  | [.agg [.sl .imm [.str] es, .int .i64 a, .int .i64 b], .int .i64 n], [] => spW (vev12_3 es a b n) (some ((true, AV.tup [AV.agg [AV.sl Tk.imm [Kd.str] (vev12_0 es a b n), AV.int IntKind.i64 a, AV.int IntKind.i64 (vev12_1 es a b n)], AV.sl Tk.imm [Kd.int IntKind.u8] (vev12_2 es a b n)], [])))
  | _, _ => none
noncomputable def k12 : Gam := fun f T C => match Nat.beq f 12 with
  | true => (sp12 T C).or (k10 f T C)
  | false => k10 f T C
theorem k12_ok : GamOK Try.prog k12 := by
  intro f T C r outs h
  unfold k12 at h
  cases hf : Nat.beq f 12 with
  | false => rw [hf] at h; exact k10_ok f T C r outs h
  | true =>
    have hf' := Nat.eq_of_beq_eq_true hf
    subst hf'
    rw [hf] at h
    dsimp only at h
    cases hs : sp12 T C with
    | none => rw [hs] at h; exact k10_ok _ T C r outs h
    | some x =>
      rw [hs] at h
      have hx : x = (true, r, outs) := by simpa using h
      subst hx
      unfold sp12 at hs
      split at hs
      · rename_i es a b n
        obtain ⟨hb, rfl, rfl⟩ := spT_inv hs
        have he := ev12 es a b n
        rw [hb, cond_true] at he
        obtain ⟨r0, o0, h0, he⟩ := evFin_inv he
        obtain ⟨h1, h2⟩ := fn_ok mixed plain (gk_ok k10_ok 30) Try.func12 (loops12 (gk k10 30)) h0
        exact ⟨h1, h2.fin he⟩
      · cases hs
noncomputable def vev11_0 (es : List (List AV)) (a : Int) (b : Int) (n : Int) : List (List AV) := bif bif decide (n < (1 : Int)) then true else bif vev14_1 es a b then vev14_0 es a b != (0 : Int) else false then es else bif bif decide (IntKind.i64.wrap (n - (↑([] ++ List.map ofB (bytD n (0 : Nat) (List.drop (nat_lit 0) es))).length : Int)) > (0 : Int)) then decide ((↑((List.take (0 : Nat) es ++ List.replicate (Int.ofNat (nat_lit 0 + cntD n (0 : Nat) (List.drop (nat_lit 0) es))).toNat [v2a (Value.string (ByteArray.mk #[]))] ++ List.drop ((0 : Nat) + (Int.ofNat (nat_lit 0 + cntD n (0 : Nat) (List.drop (nat_lit 0) es))).toNat) es).length - (Int.ofNat (nat_lit 0 + cntD n (0 : Nat) (List.drop (nat_lit 0) es))).toNat) : Int) > (0 : Int)) else false then List.take ((List.take (0 : Nat) es ++ List.replicate (Int.ofNat (nat_lit 0 + cntD n (0 : Nat) (List.drop (nat_lit 0) es))).toNat [v2a (Value.string (ByteArray.mk #[]))] ++ List.drop ((0 : Nat) + (Int.ofNat (nat_lit 0 + cntD n (0 : Nat) (List.drop (nat_lit 0) es))).toNat) es).length - (Int.ofNat (nat_lit 0 + cntD n (0 : Nat) (List.drop (nat_lit 0) es))).toNat) (List.drop (Int.ofNat (nat_lit 0 + cntD n (0 : Nat) (List.drop (nat_lit 0) es))).toNat (([] ++ List.replicate (Int.ofNat (nat_lit 0 + cntD n (0 : Nat) (List.drop (nat_lit 0) es))).toNat [v2a (Value.string (ByteArray.mk #[]))] ++ List.drop ((0 : Nat) + (Int.ofNat (nat_lit 0 + cntD n (0 : Nat) (List.drop (nat_lit 0) es))).toNat) es).set (Int.toNat (0 : Int) + (Int.ofNat (nat_lit 0 + cntD n (0 : Nat) (List.drop (nat_lit 0) es))).toNat) [AV.str (List.drop (IntKind.i64.wrap (n - (↑([] ++ List.map ofB (bytD n (0 : Nat) (List.drop (nat_lit 0) es))).length : Int))).toNat (strOf (((List.take (0 : Nat) es ++ List.replicate (Int.ofNat (nat_lit 0 + cntD n (0 : Nat) (List.drop (nat_lit 0) es))).toNat [v2a (Value.string (ByteArray.mk #[]))] ++ List.drop ((0 : Nat) + (Int.ofNat (nat_lit 0 + cntD n (0 : Nat) (List.drop (nat_lit 0) es))).toNat) es).getD (Int.toNat (0 : Int) + (Int.ofNat (nat_lit 0 + cntD n (0 : Nat) (List.drop (nat_lit 0) es))).toNat) []).getD (0 : Nat) AV.junk)))])) else List.take ((List.take (0 : Nat) es ++ List.replicate (Int.ofNat (nat_lit 0 + cntD n (0 : Nat) (List.drop (nat_lit 0) es))).toNat [v2a (Value.string (ByteArray.mk #[]))] ++ List.drop ((0 : Nat) + (Int.ofNat (nat_lit 0 + cntD n (0 : Nat) (List.drop (nat_lit 0) es))).toNat) es).length - (Int.ofNat (nat_lit 0 + cntD n (0 : Nat) (List.drop (nat_lit 0) es))).toNat) (List.drop (Int.ofNat (nat_lit 0 + cntD n (0 : Nat) (List.drop (nat_lit 0) es))).toNat ([] ++ List.replicate (Int.ofNat (nat_lit 0 + cntD n (0 : Nat) (List.drop (nat_lit 0) es))).toNat [v2a (Value.string (ByteArray.mk #[]))] ++ List.drop ((0 : Nat) + (Int.ofNat (nat_lit 0 + cntD n (0 : Nat) (List.drop (nat_lit 0) es))).toNat) es))
noncomputable def vev11_1 (es : List (List AV)) (a : Int) (b : Int) (n : Int) : Int := bif bif decide (n < (1 : Int)) then true else bif vev14_1 es a b then vev14_0 es a b != (0 : Int) else false then b else bif bif decide (IntKind.i64.wrap (n - (↑([] ++ List.map ofB (bytD n (0 : Nat) (List.drop (nat_lit 0) es))).length : Int)) > (0 : Int)) then decide ((↑((List.take (0 : Nat) es ++ List.replicate (Int.ofNat (nat_lit 0 + cntD n (0 : Nat) (List.drop (nat_lit 0) es))).toNat [v2a (Value.string (ByteArray.mk #[]))] ++ List.drop ((0 : Nat) + (Int.ofNat (nat_lit 0 + cntD n (0 : Nat) (List.drop (nat_lit 0) es))).toNat) es).length - (Int.ofNat (nat_lit 0 + cntD n (0 : Nat) (List.drop (nat_lit 0) es))).toNat) : Int) > (0 : Int)) else false then IntKind.i64.wrap (b + (↑([] ++ List.map ofB (bytD n (0 : Nat) (List.drop (nat_lit 0) es)) ++ List.map ofB (List.take (IntKind.i64.wrap (n - (↑([] ++ List.map ofB (bytD n (0 : Nat) (List.drop (nat_lit 0) es))).length : Int))).toNat (strOf (((List.take (0 : Nat) es ++ List.replicate (Int.ofNat (nat_lit 0 + cntD n (0 : Nat) (List.drop (nat_lit 0) es))).toNat [v2a (Value.string (ByteArray.mk #[]))] ++ List.drop ((0 : Nat) + (Int.ofNat (nat_lit 0 + cntD n (0 : Nat) (List.drop (nat_lit 0) es))).toNat) es).getD (Int.toNat (0 : Int) + (Int.ofNat (nat_lit 0 + cntD n (0 : Nat) (List.drop (nat_lit 0) es))).toNat) []).getD (0 : Nat) AV.junk)))).length : Int)) else IntKind.i64.wrap (b + (↑([] ++ List.map ofB (bytD n (0 : Nat) (List.drop (nat_lit 0) es))).length : Int))
noncomputable def vev11_2 (es : List (List AV)) (a : Int) (b : Int) (n : Int) : List (List AV) := bif bif decide (n < (1 : Int)) then true else bif vev14_1 es a b then vev14_0 es a b != (0 : Int) else false then [] else bif bif decide (IntKind.i64.wrap (n - (↑([] ++ List.map ofB (bytD n (0 : Nat) (List.drop (nat_lit 0) es))).length : Int)) > (0 : Int)) then decide ((↑((List.take (0 : Nat) es ++ List.replicate (Int.ofNat (nat_lit 0 + cntD n (0 : Nat) (List.drop (nat_lit 0) es))).toNat [v2a (Value.string (ByteArray.mk #[]))] ++ List.drop ((0 : Nat) + (Int.ofNat (nat_lit 0 + cntD n (0 : Nat) (List.drop (nat_lit 0) es))).toNat) es).length - (Int.ofNat (nat_lit 0 + cntD n (0 : Nat) (List.drop (nat_lit 0) es))).toNat) : Int) > (0 : Int)) else false then [] ++ List.map ofB (bytD n (0 : Nat) (List.drop (nat_lit 0) es)) ++ List.map ofB (List.take (IntKind.i64.wrap (n - (↑([] ++ List.map ofB (bytD n (0 : Nat) (List.drop (nat_lit 0) es))).length : Int))).toNat (strOf (((List.take (0 : Nat) es ++ List.replicate (Int.ofNat (nat_lit 0 + cntD n (0 : Nat) (List.drop (nat_lit 0) es))).toNat [v2a (Value.string (ByteArray.mk #[]))] ++ List.drop ((0 : Nat) + (Int.ofNat (nat_lit 0 + cntD n (0 : Nat) (List.drop (nat_lit 0) es))).toNat) es).getD (Int.toNat (0 : Int) + (Int.ofNat (nat_lit 0 + cntD n (0 : Nat) (List.drop (nat_lit 0) es))).toNat) []).getD (0 : Nat) AV.junk))) else [] ++ List.map ofB (bytD n (0 : Nat) (List.drop (nat_lit 0) es))
noncomputable def vev11_3 (es : List (List AV)) (a : Int) (b : Int) (n : Int) : Bool := bif vev21_0 es a b then bif bif decide (n < (1 : Int)) then true else vev14_1 es a b then bif bif decide (n < (1 : Int)) then true else bif vev14_1 es a b then vev14_0 es a b != (0 : Int) else false then true else bif (sp11L (es, [], a, b, n, nat_lit 0, (↑es.length : Int), nat_lit 0)).fst then bif bnd (0 : Int) (Int.ofNat (nat_lit 0 + cntD n (0 : Nat) (List.drop (nat_lit 0) es))) (↑es.length : Int) then bif bnd (Int.ofNat (nat_lit 0 + cntD n (0 : Nat) (List.drop (nat_lit 0) es))) (↑(List.take (0 : Nat) es ++ List.replicate (Int.ofNat (nat_lit 0 + cntD n (0 : Nat) (List.drop (nat_lit 0) es))).toNat [v2a (Value.string (ByteArray.mk #[]))] ++ List.drop ((0 : Nat) + (Int.ofNat (nat_lit 0 + cntD n (0 : Nat) (List.drop (nat_lit 0) es))).toNat) es).length : Int) (↑(List.take (0 : Nat) es ++ List.replicate (Int.ofNat (nat_lit 0 + cntD n (0 : Nat) (List.drop (nat_lit 0) es))).toNat [v2a (Value.string (ByteArray.mk #[]))] ++ List.drop ((0 : Nat) + (Int.ofNat (nat_lit 0 + cntD n (0 : Nat) (List.drop (nat_lit 0) es))).toNat) es).length : Int) then bif bif decide (IntKind.i64.wrap (n - (↑([] ++ List.map ofB (bytD n (0 : Nat) (List.drop (nat_lit 0) es))).length : Int)) > (0 : Int)) then decide ((↑((List.take (0 : Nat) es ++ List.replicate (Int.ofNat (nat_lit 0 + cntD n (0 : Nat) (List.drop (nat_lit 0) es))).toNat [v2a (Value.string (ByteArray.mk #[]))] ++ List.drop ((0 : Nat) + (Int.ofNat (nat_lit 0 + cntD n (0 : Nat) (List.drop (nat_lit 0) es))).toNat) es).length - (Int.ofNat (nat_lit 0 + cntD n (0 : Nat) (List.drop (nat_lit 0) es))).toNat) : Int) > (0 : Int)) else false then bif decide ((0 : Int) ≤ (0 : Int)) && decide ((0 : Int) < (↑((List.take (0 : Nat) es ++ List.replicate (Int.ofNat (nat_lit 0 + cntD n (0 : Nat) (List.drop (nat_lit 0) es))).toNat [v2a (Value.string (ByteArray.mk #[]))] ++ List.drop ((0 : Nat) + (Int.ofNat (nat_lit 0 + cntD n (0 : Nat) (List.drop (nat_lit 0) es))).toNat) es).length - (Int.ofNat (nat_lit 0 + cntD n (0 : Nat) (List.drop (nat_lit 0) es))).toNat) : Int)) then bif bnd (0 : Int) (IntKind.i64.wrap (n - (↑([] ++ List.map ofB (bytD n (0 : Nat) (List.drop (nat_lit 0) es))).length : Int))) (↑(strOf (((List.take (0 : Nat) es ++ List.replicate (Int.ofNat (nat_lit 0 + cntD n (0 : Nat) (List.drop (nat_lit 0) es))).toNat [v2a (Value.string (ByteArray.mk #[]))] ++ List.drop ((0 : Nat) + (Int.ofNat (nat_lit 0 + cntD n (0 : Nat) (List.drop (nat_lit 0) es))).toNat) es).getD (Int.toNat (0 : Int) + (Int.ofNat (nat_lit 0 + cntD n (0 : Nat) (List.drop (nat_lit 0) es))).toNat) []).getD (0 : Nat) AV.junk)).length : Int) then bif bif decide ((([] ++ List.map ofB (bytD n (0 : Nat) (List.drop (nat_lit 0) es))).length + (List.map ofB (List.take (IntKind.i64.wrap (n - (↑([] ++ List.map ofB (bytD n (0 : Nat) (List.drop (nat_lit 0) es))).length : Int))).toNat (strOf (((List.take (0 : Nat) es ++ List.replicate (Int.ofNat (nat_lit 0 + cntD n (0 : Nat) (List.drop (nat_lit 0) es))).toNat [v2a (Value.string (ByteArray.mk #[]))] ++ List.drop ((0 : Nat) + (Int.ofNat (nat_lit 0 + cntD n (0 : Nat) (List.drop (nat_lit 0) es))).toNat) es).getD (Int.toNat (0 : Int) + (Int.ofNat (nat_lit 0 + cntD n (0 : Nat) (List.drop (nat_lit 0) es))).toNat) []).getD (0 : Nat) AV.junk)))).length) * (1 : Nat) ≤ (140737488355328 : Nat)) then decide (([] ++ List.map ofB (bytD n (0 : Nat) (List.drop (nat_lit 0) es))).length + (List.map ofB (List.take (IntKind.i64.wrap (n - (↑([] ++ List.map ofB (bytD n (0 : Nat) (List.drop (nat_lit 0) es))).length : Int))).toNat (strOf (((List.take (0 : Nat) es ++ List.replicate (Int.ofNat (nat_lit 0 + cntD n (0 : Nat) (List.drop (nat_lit 0) es))).toNat [v2a (Value.string (ByteArray.mk #[]))] ++ List.drop ((0 : Nat) + (Int.ofNat (nat_lit 0 + cntD n (0 : Nat) (List.drop (nat_lit 0) es))).toNat) es).getD (Int.toNat (0 : Int) + (Int.ofNat (nat_lit 0 + cntD n (0 : Nat) (List.drop (nat_lit 0) es))).toNat) []).getD (0 : Nat) AV.junk)))).length ≤ (9223372036854775807 : Nat)) else false then bif bnd (IntKind.i64.wrap (n - (↑([] ++ List.map ofB (bytD n (0 : Nat) (List.drop (nat_lit 0) es))).length : Int))) (↑(strOf (((List.take (0 : Nat) es ++ List.replicate (Int.ofNat (nat_lit 0 + cntD n (0 : Nat) (List.drop (nat_lit 0) es))).toNat [v2a (Value.string (ByteArray.mk #[]))] ++ List.drop ((0 : Nat) + (Int.ofNat (nat_lit 0 + cntD n (0 : Nat) (List.drop (nat_lit 0) es))).toNat) es).getD (Int.toNat (0 : Int) + (Int.ofNat (nat_lit 0 + cntD n (0 : Nat) (List.drop (nat_lit 0) es))).toNat) []).getD (0 : Nat) AV.junk)).length : Int) (↑(strOf (((List.take (0 : Nat) es ++ List.replicate (Int.ofNat (nat_lit 0 + cntD n (0 : Nat) (List.drop (nat_lit 0) es))).toNat [v2a (Value.string (ByteArray.mk #[]))] ++ List.drop ((0 : Nat) + (Int.ofNat (nat_lit 0 + cntD n (0 : Nat) (List.drop (nat_lit 0) es))).toNat) es).getD (Int.toNat (0 : Int) + (Int.ofNat (nat_lit 0 + cntD n (0 : Nat) (List.drop (nat_lit 0) es))).toNat) []).getD (0 : Nat) AV.junk)).length : Int) then true else false else false else false else false else true else false else false else false else false else false
theorem ev11 (es : List (List AV)) (a : Int) (b : Int) (n : Int) : evFin (cfg Try.prog tab 100000 (gk k12 30) lsp11 11 ([] : List Blk).length Try.f11.ntmps) ([] : List Blk).length Try.f11.resultTypes.toList Try.f11 [.agg [.sl .imm [.str] es, .int .i64 a, .int .i64 b], .int .i64 n] [] = bif vev11_3 es a b n then some (true, AV.tup [AV.agg [AV.sl Tk.imm [Kd.str] (vev11_0 es a b n), AV.int IntKind.i64 a, AV.int IntKind.i64 (vev11_1 es a b n)], AV.sl Tk.imm [Kd.int IntKind.u8] (vev11_2 es a b n)], []) else none := by
  have h : evFin (cfg Try.prog tab 100000 (gk k12 30) lsp11 11 ([] : List Blk).length Try.f11.ntmps) ([] : List Blk).length Try.f11.resultTypes.toList Try.f11 [.agg [.sl .imm [.str] es, .int .i64 a, .int .i64 b], .int .i64 n] [] = bif vev21_0 es a b then bif bif decide (n < (1 : Int)) then true else bif vev14_1 es a b then true else false then bif bif decide (n < (1 : Int)) then true else bif vev14_1 es a b then bif false then true else vev14_0 es a b != (0 : Int) else false then some (true, AV.tup [AV.agg [AV.sl Tk.imm [Kd.str] es, AV.int IntKind.i64 a, AV.int IntKind.i64 b], AV.sl Tk.imm [Kd.int IntKind.u8] []], []) else bif (sp11L (es, [], a, b, n, nat_lit 0, (↑es.length : Int), nat_lit 0)).fst then bif bnd (0 : Int) (Int.ofNat (nat_lit 0 + cntD n (0 : Nat) (List.drop (nat_lit 0) es))) (↑es.length : Int) then bif bnd (Int.ofNat (nat_lit 0 + cntD n (0 : Nat) (List.drop (nat_lit 0) es))) (↑(List.take (0 : Nat) es ++ List.replicate (Int.ofNat (nat_lit 0 + cntD n (0 : Nat) (List.drop (nat_lit 0) es))).toNat [v2a (Value.string (ByteArray.mk #[]))] ++ List.drop ((0 : Nat) + (Int.ofNat (nat_lit 0 + cntD n (0 : Nat) (List.drop (nat_lit 0) es))).toNat) es).length : Int) (↑(List.take (0 : Nat) es ++ List.replicate (Int.ofNat (nat_lit 0 + cntD n (0 : Nat) (List.drop (nat_lit 0) es))).toNat [v2a (Value.string (ByteArray.mk #[]))] ++ List.drop ((0 : Nat) + (Int.ofNat (nat_lit 0 + cntD n (0 : Nat) (List.drop (nat_lit 0) es))).toNat) es).length : Int) then bif bif decide (IntKind.i64.wrap (n - (↑([] ++ List.map ofB (bytD n (0 : Nat) (List.drop (nat_lit 0) es))).length : Int)) > (0 : Int)) then true else true then bif bif decide (IntKind.i64.wrap (n - (↑([] ++ List.map ofB (bytD n (0 : Nat) (List.drop (nat_lit 0) es))).length : Int)) > (0 : Int)) then bif true then decide ((↑((List.take (0 : Nat) es ++ List.replicate (Int.ofNat (nat_lit 0 + cntD n (0 : Nat) (List.drop (nat_lit 0) es))).toNat [v2a (Value.string (ByteArray.mk #[]))] ++ List.drop ((0 : Nat) + (Int.ofNat (nat_lit 0 + cntD n (0 : Nat) (List.drop (nat_lit 0) es))).toNat) es).length - (Int.ofNat (nat_lit 0 + cntD n (0 : Nat) (List.drop (nat_lit 0) es))).toNat) : Int) > (0 : Int)) else false else false then bif decide ((0 : Int) ≤ (0 : Int)) && decide ((0 : Int) < (↑((List.take (0 : Nat) es ++ List.replicate (Int.ofNat (nat_lit 0 + cntD n (0 : Nat) (List.drop (nat_lit 0) es))).toNat [v2a (Value.string (ByteArray.mk #[]))] ++ List.drop ((0 : Nat) + (Int.ofNat (nat_lit 0 + cntD n (0 : Nat) (List.drop (nat_lit 0) es))).toNat) es).length - (Int.ofNat (nat_lit 0 + cntD n (0 : Nat) (List.drop (nat_lit 0) es))).toNat) : Int)) then bif bnd (0 : Int) (IntKind.i64.wrap (n - (↑([] ++ List.map ofB (bytD n (0 : Nat) (List.drop (nat_lit 0) es))).length : Int))) (↑(strOf (((List.take (0 : Nat) es ++ List.replicate (Int.ofNat (nat_lit 0 + cntD n (0 : Nat) (List.drop (nat_lit 0) es))).toNat [v2a (Value.string (ByteArray.mk #[]))] ++ List.drop ((0 : Nat) + (Int.ofNat (nat_lit 0 + cntD n (0 : Nat) (List.drop (nat_lit 0) es))).toNat) es).getD (Int.toNat (0 : Int) + (Int.ofNat (nat_lit 0 + cntD n (0 : Nat) (List.drop (nat_lit 0) es))).toNat) []).getD (0 : Nat) AV.junk)).length : Int) then bif bif decide ((([] ++ List.map ofB (bytD n (0 : Nat) (List.drop (nat_lit 0) es))).length + (List.map ofB (List.take (IntKind.i64.wrap (n - (↑([] ++ List.map ofB (bytD n (0 : Nat) (List.drop (nat_lit 0) es))).length : Int))).toNat (strOf (((List.take (0 : Nat) es ++ List.replicate (Int.ofNat (nat_lit 0 + cntD n (0 : Nat) (List.drop (nat_lit 0) es))).toNat [v2a (Value.string (ByteArray.mk #[]))] ++ List.drop ((0 : Nat) + (Int.ofNat (nat_lit 0 + cntD n (0 : Nat) (List.drop (nat_lit 0) es))).toNat) es).getD (Int.toNat (0 : Int) + (Int.ofNat (nat_lit 0 + cntD n (0 : Nat) (List.drop (nat_lit 0) es))).toNat) []).getD (0 : Nat) AV.junk)))).length) * (1 : Nat) ≤ (140737488355328 : Nat)) then decide (([] ++ List.map ofB (bytD n (0 : Nat) (List.drop (nat_lit 0) es))).length + (List.map ofB (List.take (IntKind.i64.wrap (n - (↑([] ++ List.map ofB (bytD n (0 : Nat) (List.drop (nat_lit 0) es))).length : Int))).toNat (strOf (((List.take (0 : Nat) es ++ List.replicate (Int.ofNat (nat_lit 0 + cntD n (0 : Nat) (List.drop (nat_lit 0) es))).toNat [v2a (Value.string (ByteArray.mk #[]))] ++ List.drop ((0 : Nat) + (Int.ofNat (nat_lit 0 + cntD n (0 : Nat) (List.drop (nat_lit 0) es))).toNat) es).getD (Int.toNat (0 : Int) + (Int.ofNat (nat_lit 0 + cntD n (0 : Nat) (List.drop (nat_lit 0) es))).toNat) []).getD (0 : Nat) AV.junk)))).length ≤ (9223372036854775807 : Nat)) else false then bif decide ((0 : Int) ≤ (0 : Int)) && decide ((0 : Int) < (↑((List.take (0 : Nat) es ++ List.replicate (Int.ofNat (nat_lit 0 + cntD n (0 : Nat) (List.drop (nat_lit 0) es))).toNat [v2a (Value.string (ByteArray.mk #[]))] ++ List.drop ((0 : Nat) + (Int.ofNat (nat_lit 0 + cntD n (0 : Nat) (List.drop (nat_lit 0) es))).toNat) es).length - (Int.ofNat (nat_lit 0 + cntD n (0 : Nat) (List.drop (nat_lit 0) es))).toNat) : Int)) then bif bnd (IntKind.i64.wrap (n - (↑([] ++ List.map ofB (bytD n (0 : Nat) (List.drop (nat_lit 0) es))).length : Int))) (↑(strOf (((List.take (0 : Nat) es ++ List.replicate (Int.ofNat (nat_lit 0 + cntD n (0 : Nat) (List.drop (nat_lit 0) es))).toNat [v2a (Value.string (ByteArray.mk #[]))] ++ List.drop ((0 : Nat) + (Int.ofNat (nat_lit 0 + cntD n (0 : Nat) (List.drop (nat_lit 0) es))).toNat) es).getD (Int.toNat (0 : Int) + (Int.ofNat (nat_lit 0 + cntD n (0 : Nat) (List.drop (nat_lit 0) es))).toNat) []).getD (0 : Nat) AV.junk)).length : Int) (↑(strOf (((List.take (0 : Nat) es ++ List.replicate (Int.ofNat (nat_lit 0 + cntD n (0 : Nat) (List.drop (nat_lit 0) es))).toNat [v2a (Value.string (ByteArray.mk #[]))] ++ List.drop ((0 : Nat) + (Int.ofNat (nat_lit 0 + cntD n (0 : Nat) (List.drop (nat_lit 0) es))).toNat) es).getD (Int.toNat (0 : Int) + (Int.ofNat (nat_lit 0 + cntD n (0 : Nat) (List.drop (nat_lit 0) es))).toNat) []).getD (0 : Nat) AV.junk)).length : Int) then bif decide ((0 : Int) ≤ (0 : Int)) && decide ((0 : Int) < (↑((List.take (0 : Nat) es ++ List.replicate (Int.ofNat (nat_lit 0 + cntD n (0 : Nat) (List.drop (nat_lit 0) es))).toNat [v2a (Value.string (ByteArray.mk #[]))] ++ List.drop ((0 : Nat) + (Int.ofNat (nat_lit 0 + cntD n (0 : Nat) (List.drop (nat_lit 0) es))).toNat) es).length - (Int.ofNat (nat_lit 0 + cntD n (0 : Nat) (List.drop (nat_lit 0) es))).toNat) : Int)) then some (true, AV.tup [AV.agg [AV.sl Tk.imm [Kd.str] (List.take ((List.take (0 : Nat) es ++ List.replicate (Int.ofNat (nat_lit 0 + cntD n (0 : Nat) (List.drop (nat_lit 0) es))).toNat [v2a (Value.string (ByteArray.mk #[]))] ++ List.drop ((0 : Nat) + (Int.ofNat (nat_lit 0 + cntD n (0 : Nat) (List.drop (nat_lit 0) es))).toNat) es).length - (Int.ofNat (nat_lit 0 + cntD n (0 : Nat) (List.drop (nat_lit 0) es))).toNat) (List.drop (Int.ofNat (nat_lit 0 + cntD n (0 : Nat) (List.drop (nat_lit 0) es))).toNat (([] ++ List.replicate (Int.ofNat (nat_lit 0 + cntD n (0 : Nat) (List.drop (nat_lit 0) es))).toNat [v2a (Value.string (ByteArray.mk #[]))] ++ List.drop ((0 : Nat) + (Int.ofNat (nat_lit 0 + cntD n (0 : Nat) (List.drop (nat_lit 0) es))).toNat) es).set (Int.toNat (0 : Int) + (Int.ofNat (nat_lit 0 + cntD n (0 : Nat) (List.drop (nat_lit 0) es))).toNat) [AV.str (List.drop (IntKind.i64.wrap (n - (↑([] ++ List.map ofB (bytD n (0 : Nat) (List.drop (nat_lit 0) es))).length : Int))).toNat (strOf (((List.take (0 : Nat) es ++ List.replicate (Int.ofNat (nat_lit 0 + cntD n (0 : Nat) (List.drop (nat_lit 0) es))).toNat [v2a (Value.string (ByteArray.mk #[]))] ++ List.drop ((0 : Nat) + (Int.ofNat (nat_lit 0 + cntD n (0 : Nat) (List.drop (nat_lit 0) es))).toNat) es).getD (Int.toNat (0 : Int) + (Int.ofNat (nat_lit 0 + cntD n (0 : Nat) (List.drop (nat_lit 0) es))).toNat) []).getD (0 : Nat) AV.junk)))]))), AV.int IntKind.i64 a, AV.int IntKind.i64 (IntKind.i64.wrap (b + (↑([] ++ List.map ofB (bytD n (0 : Nat) (List.drop (nat_lit 0) es)) ++ List.map ofB (List.take (IntKind.i64.wrap (n - (↑([] ++ List.map ofB (bytD n (0 : Nat) (List.drop (nat_lit 0) es))).length : Int))).toNat (strOf (((List.take (0 : Nat) es ++ List.replicate (Int.ofNat (nat_lit 0 + cntD n (0 : Nat) (List.drop (nat_lit 0) es))).toNat [v2a (Value.string (ByteArray.mk #[]))] ++ List.drop ((0 : Nat) + (Int.ofNat (nat_lit 0 + cntD n (0 : Nat) (List.drop (nat_lit 0) es))).toNat) es).getD (Int.toNat (0 : Int) + (Int.ofNat (nat_lit 0 + cntD n (0 : Nat) (List.drop (nat_lit 0) es))).toNat) []).getD (0 : Nat) AV.junk)))).length : Int)))], AV.sl Tk.imm [Kd.int IntKind.u8] ([] ++ List.map ofB (bytD n (0 : Nat) (List.drop (nat_lit 0) es)) ++ List.map ofB (List.take (IntKind.i64.wrap (n - (↑([] ++ List.map ofB (bytD n (0 : Nat) (List.drop (nat_lit 0) es))).length : Int))).toNat (strOf (((List.take (0 : Nat) es ++ List.replicate (Int.ofNat (nat_lit 0 + cntD n (0 : Nat) (List.drop (nat_lit 0) es))).toNat [v2a (Value.string (ByteArray.mk #[]))] ++ List.drop ((0 : Nat) + (Int.ofNat (nat_lit 0 + cntD n (0 : Nat) (List.drop (nat_lit 0) es))).toNat) es).getD (Int.toNat (0 : Int) + (Int.ofNat (nat_lit 0 + cntD n (0 : Nat) (List.drop (nat_lit 0) es))).toNat) []).getD (0 : Nat) AV.junk))))], []) else none else none else none else none else none else none else some (true, AV.tup [AV.agg [AV.sl Tk.imm [Kd.str] (List.take ((List.take (0 : Nat) es ++ List.replicate (Int.ofNat (nat_lit 0 + cntD n (0 : Nat) (List.drop (nat_lit 0) es))).toNat [v2a (Value.string (ByteArray.mk #[]))] ++ List.drop ((0 : Nat) + (Int.ofNat (nat_lit 0 + cntD n (0 : Nat) (List.drop (nat_lit 0) es))).toNat) es).length - (Int.ofNat (nat_lit 0 + cntD n (0 : Nat) (List.drop (nat_lit 0) es))).toNat) (List.drop (Int.ofNat (nat_lit 0 + cntD n (0 : Nat) (List.drop (nat_lit 0) es))).toNat ([] ++ List.replicate (Int.ofNat (nat_lit 0 + cntD n (0 : Nat) (List.drop (nat_lit 0) es))).toNat [v2a (Value.string (ByteArray.mk #[]))] ++ List.drop ((0 : Nat) + (Int.ofNat (nat_lit 0 + cntD n (0 : Nat) (List.drop (nat_lit 0) es))).toNat) es))), AV.int IntKind.i64 a, AV.int IntKind.i64 (IntKind.i64.wrap (b + (↑([] ++ List.map ofB (bytD n (0 : Nat) (List.drop (nat_lit 0) es))).length : Int)))], AV.sl Tk.imm [Kd.int IntKind.u8] ([] ++ List.map ofB (bytD n (0 : Nat) (List.drop (nat_lit 0) es)))], []) else none else none else none else none else none else none := by kernel_rfl
  rw [h]
  clear h
  unfold vev11_0 vev11_1 vev11_2 vev11_3
  generalize (decide ((([] ++ List.map ofB (bytD n (0 : Nat) (List.drop (nat_lit 0) es))).length + (List.map ofB (List.take (IntKind.i64.wrap (n - (↑([] ++ List.map ofB (bytD n (0 : Nat) (List.drop (nat_lit 0) es))).length : Int))).toNat (strOf (((List.take (0 : Nat) es ++ List.replicate (Int.ofNat (nat_lit 0 + cntD n (0 : Nat) (List.drop (nat_lit 0) es))).toNat [v2a (Value.string (ByteArray.mk #[]))] ++ List.drop ((0 : Nat) + (Int.ofNat (nat_lit 0 + cntD n (0 : Nat) (List.drop (nat_lit 0) es))).toNat) es).getD (Int.toNat (0 : Int) + (Int.ofNat (nat_lit 0 + cntD n (0 : Nat) (List.drop (nat_lit 0) es))).toNat) []).getD (0 : Nat) AV.junk)))).length) * (1 : Nat) ≤ (140737488355328 : Nat))) = c0
  generalize (decide (([] ++ List.map ofB (bytD n (0 : Nat) (List.drop (nat_lit 0) es))).length + (List.map ofB (List.take (IntKind.i64.wrap (n - (↑([] ++ List.map ofB (bytD n (0 : Nat) (List.drop (nat_lit 0) es))).length : Int))).toNat (strOf (((List.take (0 : Nat) es ++ List.replicate (Int.ofNat (nat_lit 0 + cntD n (0 : Nat) (List.drop (nat_lit 0) es))).toNat [v2a (Value.string (ByteArray.mk #[]))] ++ List.drop ((0 : Nat) + (Int.ofNat (nat_lit 0 + cntD n (0 : Nat) (List.drop (nat_lit 0) es))).toNat) es).getD (Int.toNat (0 : Int) + (Int.ofNat (nat_lit 0 + cntD n (0 : Nat) (List.drop (nat_lit 0) es))).toNat) []).getD (0 : Nat) AV.junk)))).length ≤ (9223372036854775807 : Nat))) = c1
  generalize (bnd (IntKind.i64.wrap (n - (↑([] ++ List.map ofB (bytD n (0 : Nat) (List.drop (nat_lit 0) es))).length : Int))) (↑(strOf (((List.take (0 : Nat) es ++ List.replicate (Int.ofNat (nat_lit 0 + cntD n (0 : Nat) (List.drop (nat_lit 0) es))).toNat [v2a (Value.string (ByteArray.mk #[]))] ++ List.drop ((0 : Nat) + (Int.ofNat (nat_lit 0 + cntD n (0 : Nat) (List.drop (nat_lit 0) es))).toNat) es).getD (Int.toNat (0 : Int) + (Int.ofNat (nat_lit 0 + cntD n (0 : Nat) (List.drop (nat_lit 0) es))).toNat) []).getD (0 : Nat) AV.junk)).length : Int) (↑(strOf (((List.take (0 : Nat) es ++ List.replicate (Int.ofNat (nat_lit 0 + cntD n (0 : Nat) (List.drop (nat_lit 0) es))).toNat [v2a (Value.string (ByteArray.mk #[]))] ++ List.drop ((0 : Nat) + (Int.ofNat (nat_lit 0 + cntD n (0 : Nat) (List.drop (nat_lit 0) es))).toNat) es).getD (Int.toNat (0 : Int) + (Int.ofNat (nat_lit 0 + cntD n (0 : Nat) (List.drop (nat_lit 0) es))).toNat) []).getD (0 : Nat) AV.junk)).length : Int)) = c2
  generalize (decide ((0 : Int) ≤ (0 : Int)) && decide ((0 : Int) < (↑((List.take (0 : Nat) es ++ List.replicate (Int.ofNat (nat_lit 0 + cntD n (0 : Nat) (List.drop (nat_lit 0) es))).toNat [v2a (Value.string (ByteArray.mk #[]))] ++ List.drop ((0 : Nat) + (Int.ofNat (nat_lit 0 + cntD n (0 : Nat) (List.drop (nat_lit 0) es))).toNat) es).length - (Int.ofNat (nat_lit 0 + cntD n (0 : Nat) (List.drop (nat_lit 0) es))).toNat) : Int))) = c3
  generalize (decide ((↑((List.take (0 : Nat) es ++ List.replicate (Int.ofNat (nat_lit 0 + cntD n (0 : Nat) (List.drop (nat_lit 0) es))).toNat [v2a (Value.string (ByteArray.mk #[]))] ++ List.drop ((0 : Nat) + (Int.ofNat (nat_lit 0 + cntD n (0 : Nat) (List.drop (nat_lit 0) es))).toNat) es).length - (Int.ofNat (nat_lit 0 + cntD n (0 : Nat) (List.drop (nat_lit 0) es))).toNat) : Int) > (0 : Int))) = c4
  generalize (bnd (Int.ofNat (nat_lit 0 + cntD n (0 : Nat) (List.drop (nat_lit 0) es))) (↑(List.take (0 : Nat) es ++ List.replicate (Int.ofNat (nat_lit 0 + cntD n (0 : Nat) (List.drop (nat_lit 0) es))).toNat [v2a (Value.string (ByteArray.mk #[]))] ++ List.drop ((0 : Nat) + (Int.ofNat (nat_lit 0 + cntD n (0 : Nat) (List.drop (nat_lit 0) es))).toNat) es).length : Int) (↑(List.take (0 : Nat) es ++ List.replicate (Int.ofNat (nat_lit 0 + cntD n (0 : Nat) (List.drop (nat_lit 0) es))).toNat [v2a (Value.string (ByteArray.mk #[]))] ++ List.drop ((0 : Nat) + (Int.ofNat (nat_lit 0 + cntD n (0 : Nat) (List.drop (nat_lit 0) es))).toNat) es).length : Int)) = c5
  generalize (bnd (0 : Int) (IntKind.i64.wrap (n - (↑([] ++ List.map ofB (bytD n (0 : Nat) (List.drop (nat_lit 0) es))).length : Int))) (↑(strOf (((List.take (0 : Nat) es ++ List.replicate (Int.ofNat (nat_lit 0 + cntD n (0 : Nat) (List.drop (nat_lit 0) es))).toNat [v2a (Value.string (ByteArray.mk #[]))] ++ List.drop ((0 : Nat) + (Int.ofNat (nat_lit 0 + cntD n (0 : Nat) (List.drop (nat_lit 0) es))).toNat) es).getD (Int.toNat (0 : Int) + (Int.ofNat (nat_lit 0 + cntD n (0 : Nat) (List.drop (nat_lit 0) es))).toNat) []).getD (0 : Nat) AV.junk)).length : Int)) = c6
  generalize (decide (IntKind.i64.wrap (n - (↑([] ++ List.map ofB (bytD n (0 : Nat) (List.drop (nat_lit 0) es))).length : Int)) > (0 : Int))) = c7
  generalize ((sp11L (es, [], a, b, n, nat_lit 0, (↑es.length : Int), nat_lit 0)).fst) = c8
  generalize (bnd (0 : Int) (Int.ofNat (nat_lit 0 + cntD n (0 : Nat) (List.drop (nat_lit 0) es))) (↑es.length : Int)) = c9
  generalize (decide (n < (1 : Int))) = c10
  generalize (vev14_0 es a b != (0 : Int)) = c11
  generalize (vev21_0 es a b) = c12
  generalize (vev14_1 es a b) = c13
  cases c12
  · skip
    rfl
  · skip
    cases c10
    · skip
      cases c13
      · skip
        rfl
      · skip
        cases c11
        · skip
          cases c8
          · skip
            rfl
          · skip
            cases c9
            · skip
              rfl
            · skip
              cases c5
              · skip
                rfl
              · skip
                cases c7
                · skip
                  rfl
                · skip
                  cases c4
                  · skip
                    rfl
                  · skip
                    cases c3
                    · skip
                      rfl
                    · skip
                      cases c6
                      · skip
                        rfl
                      · skip
                        cases c0
                        · skip
                          rfl
                        · skip
                          cases c1
                          · skip
                            rfl
                          · skip
                            cases c2
                            · skip
                              rfl
                            · skip
                              rfl
        · skip
          rfl
    · skip
      rfl
-- spec vev11_3 es a b n ;; (true, AV.tup [AV.agg [AV.sl Tk.imm [Kd.str] (vev11_0 es a b n), AV.int IntKind.i64 a, AV.int IntKind.i64 (vev11_1 es a b n)], AV.sl Tk.imm [Kd.int IntKind.u8] (vev11_2 es a b n)], [])
noncomputable def sp11 : List AV → List Blk → Option (Bool × AV × List Blk)
  | [.agg [.sl .imm [.str] es, .int .i64 a, .int .i64 b], .int .i64 n], [] => spW (vev11_3 es a b n) (some ((true, AV.tup [AV.agg [AV.sl Tk.imm [Kd.str] (vev11_0 es a b n), AV.int IntKind.i64 a, AV.int IntKind.i64 (vev11_1 es a b n)], AV.sl Tk.imm [Kd.int IntKind.u8] (vev11_2 es a b n)], [])))
  | _, _ => none
noncomputable def k11 : Gam := fun f T C => match Nat.beq f 11 with
  | true => (sp11 T C).or (k12 f T C)
  | false => k12 f T C
theorem k11_ok : GamOK Try.prog k11 := by
  intro f T C r outs h
  unfold k11 at h
  cases hf : Nat.beq f 11 with
  | false => rw [hf] at h; exact k12_ok f T C r outs h
  | true =>
    have hf' := Nat.eq_of_beq_eq_true hf
    subst hf'
    rw [hf] at h
    dsimp only at h
    cases hs : sp11 T C with
    | none => rw [hs] at h; exact k12_ok _ T C r outs h
    | some x =>
      rw [hs] at h
      have hx : x = (true, r, outs) := by simpa using h
      subst hx
      unfold sp11 at hs
      split at hs
      · rename_i es a b n
        obtain ⟨hb, rfl, rfl⟩ := spT_inv hs
        have he := ev11 es a b n
        rw [hb, cond_true] at he
        obtain ⟨r0, o0, h0, he⟩ := evFin_inv he
        obtain ⟨h1, h2⟩ := fn_ok mixed plain (gk_ok k12_ok 30) Try.func11 (loops11 (gk k12 30)) h0
        exact ⟨h1, h2.fin he⟩
      · cases hs
end Go.Proofs.Gv
