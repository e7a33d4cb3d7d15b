import Derived.Test.YtndephedgodneaaGt
import Derived.KernelRfl
import Derived.Test.YtndephedgodneaaGwF
import Derived.Test.YtndephedgodneaaGaFr4
namespace Go.Proofs.Gv
open Go.Proofs
set_option linter.unusedVariables false
/-- fhead.Put, where the head is in range: a row of its own. -/
noncomputable def hR (l t g n : Int) : List (List AV) := [[AV.int IntKind.u8 (IntKind.u8.wrap ((IntKind.u32.wrap l).fdiv ((2 : Int) ^ min (Int.toNat (16 : Int)) IntKind.u32.bits)))], [AV.int IntKind.u8 (IntKind.u8.wrap ((IntKind.u32.wrap l).fdiv ((2 : Int) ^ min (Int.toNat (8 : Int)) IntKind.u32.bits)))], [AV.int IntKind.u8 (IntKind.u8.wrap (IntKind.u32.wrap l))], [AV.int IntKind.u8 t], [AV.int IntKind.u8 g], [AV.int IntKind.u8 (IntKind.u8.wrap ((IntKind.u32.wrap n).fdiv ((2 : Int) ^ min (Int.toNat (24 : Int)) IntKind.u32.bits)))], [AV.int IntKind.u8 (IntKind.u8.wrap ((IntKind.u32.wrap n).fdiv ((2 : Int) ^ min (Int.toNat (16 : Int)) IntKind.u32.bits)))], [AV.int IntKind.u8 (IntKind.u8.wrap ((IntKind.u32.wrap n).fdiv ((2 : Int) ^ min (Int.toNat (8 : Int)) IntKind.u32.bits)))], [AV.int IntKind.u8 (IntKind.u8.wrap (IntKind.u32.wrap n))]]
noncomputable def hB (l n : Int) : Bool := bif bif decide (l < (0 : Int)) then true else bif decide (l > (16777215 : Int)) then true else bif decide (n < (0 : Int)) then true else decide (n > (2147483647 : Int)) then false else true
theorem ev46r (l t g n : Int) : evFun (cfg Try.prog tab 100000 (gk k16 30) noLsp 46 ([] : List Blk).length Try.f46.ntmps) Try.f46 [.agg [.int .i64 l, .int .u8 t, .int .u8 g, .int .i64 n]] [] = bif vev67_0 l t g n != (0 : Int) then some (AV.tup [.nil, AV.int IntKind.i64 (vev67_0 l t g n)], []) else some (AV.tup [AV.rf (nat_lit 0) [Kd.int IntKind.u8], AV.int IntKind.i64 0], [Blk.row [Kd.int IntKind.u8] (hR l t g n)]) := by kernel_rfl
noncomputable def sp46r : List AV → List Blk → Option (Bool × AV × List Blk)
  | [.agg [.int .i64 l, .int .u8 t, .int .u8 g, .int .i64 n]], [] => some (hB l n, AV.tup [AV.rf (nat_lit 0) [Kd.int IntKind.u8], AV.int IntKind.i64 0], [Blk.row [Kd.int IntKind.u8] (hR l t g n)])
  | _, _ => none
noncomputable def k46r : Gam := fun f T C => match Nat.beq f 46 with
  | true => (sp46r T C).or (k16 f T C)
  | false => k16 f T C
theorem k46r_ok : GamOK Try.prog k46r := by
  intro f T C r outs h
  unfold k46r at h
  cases hf : Nat.beq f 46 with
  | false => rw [hf] at h; exact k16_ok f T C r outs h
  | true =>
    have hf' := Nat.eq_of_beq_eq_true hf
    subst hf'
    rw [hf] at h
    dsimp only at h
    cases hs : sp46r T C with
    | none => rw [hs] at h; exact k16_ok _ T C r outs h
    | some x =>
      rw [hs] at h
      have hx : x = (true, r, outs) := by simpa using h
      subst hx
      unfold sp46r at hs
      split at hs
      · rename_i l t g n
        injection hs with hs
        injection hs with hb hs
        injection hs with e1 e2
        subst e1 e2
        have he := ev46r l t g n
        have hv : (vev67_0 l t g n != (0 : Int)) = false := by
          unfold hB at hb
          unfold vev67_0
          cases hx : (bif decide (l < (0 : Int)) then true else bif decide (l > (16777215 : Int)) then true else bif decide (n < (0 : Int)) then true else decide (n > (2147483647 : Int))) with
          | false => rfl
          | true => rw [hx] at hb; cases hb
        rw [hv, cond_false] at he
        exact fn_ok mixed plain (gk_ok k16_ok 30) Try.func46 (fun c _ => LoopsOK.none (fun _ _ => rfl) c) he
      · cases hs
noncomputable def rev17r_0 (t g n : Int) (d : List UInt8) (pa de : Int) (so : Bool) (we co la inc : Int) (ps : List (List AV)) : Int := vev19_0 t g n d pa de so we co la inc ps
noncomputable def rev17r_1 (t g n : Int) (d : List UInt8) (pa de : Int) (so : Bool) (we co la inc : Int) (ps : List (List AV)) : List (List AV) := vev45_0 t g n d pa de so we co la inc ps
noncomputable def rev17r_2 (t g n : Int) (d : List UInt8) (pa de : Int) (so : Bool) (we co la inc : Int) (ps : List (List AV)) : Int := (↑(rev17r_1 t g n d pa de so we co la inc ps).length : Int)
noncomputable def rev17r_3 (t g n : Int) (d : List UInt8) (pa de : Int) (so : Bool) (we co la inc : Int) (ps : List (List AV)) : Int := IntKind.u32.wrap (rev17r_2 t g n d pa de so we co la inc ps)
noncomputable def vev17r_0 (t g n : Int) (d : List UInt8) (pa de : Int) (so : Bool) (we co la inc : Int) (ps : List (List AV)) : List (List AV) := bif rev17r_0 t g n d pa de so we co la inc ps != (0 : Int) then [] else [AV.int IntKind.u8 (IntKind.u8.wrap ((rev17r_3 t g n d pa de so we co la inc ps).fdiv ((2 : Int) ^ min (Int.toNat (16 : Int)) IntKind.u32.bits)))] :: [AV.int IntKind.u8 (IntKind.u8.wrap ((rev17r_3 t g n d pa de so we co la inc ps).fdiv ((2 : Int) ^ min (Int.toNat (8 : Int)) IntKind.u32.bits)))] :: [AV.int IntKind.u8 (IntKind.u8.wrap (rev17r_3 t g n d pa de so we co la inc ps))] :: [AV.int IntKind.u8 t] :: [AV.int IntKind.u8 g] :: [AV.int IntKind.u8 (IntKind.u8.wrap ((IntKind.u32.wrap n).fdiv ((2 : Int) ^ min (Int.toNat (24 : Int)) IntKind.u32.bits)))] :: [AV.int IntKind.u8 (IntKind.u8.wrap ((IntKind.u32.wrap n).fdiv ((2 : Int) ^ min (Int.toNat (16 : Int)) IntKind.u32.bits)))] :: [AV.int IntKind.u8 (IntKind.u8.wrap ((IntKind.u32.wrap n).fdiv ((2 : Int) ^ min (Int.toNat (8 : Int)) IntKind.u32.bits)))] :: [AV.int IntKind.u8 (IntKind.u8.wrap (IntKind.u32.wrap n))] :: rev17r_1 t g n d pa de so we co la inc ps
noncomputable def vev17r_1 (t g n : Int) (d : List UInt8) (pa de : Int) (so : Bool) (we co la inc : Int) (ps : List (List AV)) : Int := bif rev17r_0 t g n d pa de so we co la inc ps != (0 : Int) then rev17r_0 t g n d pa de so we co la inc ps else (0 : Int)
noncomputable def vev17r_2 (t g n : Int) (d : List UInt8) (pa de : Int) (so : Bool) (we co la inc : Int) (ps : List (List AV)) : Bool := bif vev19_1 t g n d pa de so we co la inc ps then bif rev17r_0 t g n d pa de so we co la inc ps != (0 : Int) then true else bif vev45_1 t g n d pa de so we co la inc ps then bif hB (rev17r_2 t g n d pa de so we co la inc ps) n then bif bif decide (((hR (rev17r_2 t g n d pa de so we co la inc ps) t g n).length + (rev17r_1 t g n d pa de so we co la inc ps).length) * (1 : Nat) ≤ (140737488355328 : Nat)) then decide ((hR (rev17r_2 t g n d pa de so we co la inc ps) t g n).length + (rev17r_1 t g n d pa de so we co la inc ps).length ≤ (9223372036854775807 : Nat)) else false then true else false else false else false else false
theorem ev17r (t g n : Int) (d : List UInt8) (pa de : Int) (so : Bool) (we co la inc : Int) (ps : List (List AV)) : evFin (cfg Try.prog tab 100000 (gk k46r 30) noLsp 17 ([] : List Blk).length Try.f17.ntmps) ([] : List Blk).length Try.f17.resultTypes.toList Try.f17 [.agg [.int .u8 t, .int .u8 g, .int .i64 n, .str d, .int .i64 pa, .int .i64 de, .bool so, .int .u8 we, .int .u32 co, .int .i64 la, .int .i64 inc, .sl .imm [.int .u16, .int .u32] ps]] [] = bif vev17r_2 t g n d pa de so we co la inc ps then some (true, AV.tup [AV.sl Tk.imm [Kd.int IntKind.u8] (vev17r_0 t g n d pa de so we co la inc ps), AV.int IntKind.i64 (vev17r_1 t g n d pa de so we co la inc ps)], []) else none := by
  have h : evFin (cfg Try.prog tab 100000 (gk k46r 30) noLsp 17 ([] : List Blk).length Try.f17.ntmps) ([] : List Blk).length Try.f17.resultTypes.toList Try.f17 [.agg [.int .u8 t, .int .u8 g, .int .i64 n, .str d, .int .i64 pa, .int .i64 de, .bool so, .int .u8 we, .int .u32 co, .int .i64 la, .int .i64 inc, .sl .imm [.int .u16, .int .u32] ps]] [] = bif vev19_1 t g n d pa de so we co la inc ps then bif rev17r_0 t g n d pa de so we co la inc ps != (0 : Int) then some (true, AV.tup [AV.sl Tk.imm [Kd.int IntKind.u8] [], AV.int IntKind.i64 (rev17r_0 t g n d pa de so we co la inc ps)], []) else bif vev45_1 t g n d pa de so we co la inc ps then bif hB (rev17r_2 t g n d pa de so we co la inc ps) n then bif bif decide (((hR (rev17r_2 t g n d pa de so we co la inc ps) t g n).length + (rev17r_1 t g n d pa de so we co la inc ps).length) * (1 : Nat) ≤ (140737488355328 : Nat)) then decide ((hR (rev17r_2 t g n d pa de so we co la inc ps) t g n).length + (rev17r_1 t g n d pa de so we co la inc ps).length ≤ (9223372036854775807 : Nat)) else false then some (true, AV.tup [AV.sl Tk.imm [Kd.int IntKind.u8] ([AV.int IntKind.u8 (IntKind.u8.wrap ((rev17r_3 t g n d pa de so we co la inc ps).fdiv ((2 : Int) ^ min (Int.toNat (16 : Int)) IntKind.u32.bits)))] :: [AV.int IntKind.u8 (IntKind.u8.wrap ((rev17r_3 t g n d pa de so we co la inc ps).fdiv ((2 : Int) ^ min (Int.toNat (8 : Int)) IntKind.u32.bits)))] :: [AV.int IntKind.u8 (IntKind.u8.wrap (rev17r_3 t g n d pa de so we co la inc ps))] :: [AV.int IntKind.u8 t] :: [AV.int IntKind.u8 g] :: [AV.int IntKind.u8 (IntKind.u8.wrap ((IntKind.u32.wrap n).fdiv ((2 : Int) ^ min (Int.toNat (24 : Int)) IntKind.u32.bits)))] :: [AV.int IntKind.u8 (IntKind.u8.wrap ((IntKind.u32.wrap n).fdiv ((2 : Int) ^ min (Int.toNat (16 : Int)) IntKind.u32.bits)))] :: [AV.int IntKind.u8 (IntKind.u8.wrap ((IntKind.u32.wrap n).fdiv ((2 : Int) ^ min (Int.toNat (8 : Int)) IntKind.u32.bits)))] :: [AV.int IntKind.u8 (IntKind.u8.wrap (IntKind.u32.wrap n))] :: rev17r_1 t g n d pa de so we co la inc ps), AV.int IntKind.i64 (0 : Int)], []) else none else none else none else none := by kernel_rfl
  rw [h]
  clear h
  unfold vev17r_0 vev17r_1 vev17r_2
  generalize (decide (((hR (rev17r_2 t g n d pa de so we co la inc ps) t g n).length + (rev17r_1 t g n d pa de so we co la inc ps).length) * (1 : Nat) ≤ (140737488355328 : Nat))) = c0
  generalize (decide ((hR (rev17r_2 t g n d pa de so we co la inc ps) t g n).length + (rev17r_1 t g n d pa de so we co la inc ps).length ≤ (9223372036854775807 : Nat))) = c1
  generalize (rev17r_0 t g n d pa de so we co la inc ps != (0 : Int)) = c2
  generalize (hB (rev17r_2 t g n d pa de so we co la inc ps) n) = c3
  generalize (vev19_1 t g n d pa de so we co la inc ps) = c4
  generalize (vev45_1 t g n d pa de so we co la inc ps) = c5
  cases c4; rfl; cases c2; cases c5; rfl; cases c3; rfl; cases c0; rfl; cases c1; rfl; rfl; rfl
-- spec vev17r_2 t g n d pa de so we co la inc ps ;; (true, AV.tup [AV.sl Tk.imm [Kd.int IntKind.u8] (vev17r_0 t g n d pa de so we co la inc ps), AV.int IntKind.i64 (vev17r_1 t g n d pa de so we co la inc ps)], [])
noncomputable def sp17r : List AV → List Blk → Option (Bool × AV × List Blk)
  | [.agg [.int .u8 t, .int .u8 g, .int .i64 n, .str d, .int .i64 pa, .int .i64 de, .bool so, .int .u8 we, .int .u32 co, .int .i64 la, .int .i64 inc, .sl .imm [.int .u16, .int .u32] ps]], [] => spW (vev17r_2 t g n d pa de so we co la inc ps) (some ((true, AV.tup [AV.sl Tk.imm [Kd.int IntKind.u8] (vev17r_0 t g n d pa de so we co la inc ps), AV.int IntKind.i64 (vev17r_1 t g n d pa de so we co la inc ps)], [])))
  | _, _ => none
noncomputable def k17r : Gam := fun f T C => match Nat.beq f 17 with
  | true => (sp17r T C).or (k46r f T C)
  | false => k46r f T C
theorem k17r_ok : GamOK Try.prog k17r := by
  intro f T C r outs h
  unfold k17r at h
  cases hf : Nat.beq f 17 with
  | false => rw [hf] at h; exact k46r_ok f T C r outs h
  | true =>
    have hf' := Nat.eq_of_beq_eq_true hf
    subst hf'
    rw [hf] at h
    dsimp only at h
    cases hs : sp17r T C with
    | none => rw [hs] at h; exact k46r_ok _ T C r outs h
    | some x =>
      rw [hs] at h
      have hx : x = (true, r, outs) := by simpa using h
      subst hx
      unfold sp17r at hs
      split at hs
      · rename_i t g n d pa de so we co la inc ps
        obtain ⟨hb, rfl, rfl⟩ := spT_inv hs
        have he := ev17r t g n d pa de so we co la inc ps
        rw [hb, cond_true] at he
        obtain ⟨r0, o0, h0, he⟩ := evFin_inv he
        obtain ⟨h1, h2⟩ := fn_ok mixed plain (gk_ok k46r_ok 30) Try.func17 (fun c _ => LoopsOK.none (fun _ _ => rfl) c) h0
        exact ⟨h1, h2.fin he⟩
      · cases hs
end Go.Proofs.Gv
