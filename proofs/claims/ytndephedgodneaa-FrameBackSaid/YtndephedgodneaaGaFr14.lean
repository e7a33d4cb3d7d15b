import Derived.Test.YtndephedgodneaaGt
import Derived.KernelRfl
import Derived.Test.YtndephedgodneaaGwF
import Derived.Test.YtndephedgodneaaGaFr9
namespace Go.Proofs.Gv
open Go.Proofs
set_option linter.unusedVariables false
noncomputable def vev24_0 (tk : Tk) (es : List (List AV)) : Int := bif decide ((↑es.length : Int) < (9 : Int)) then (0 : Int) else IntKind.i64.wrap (bits BinOp.or IntKind.u32 (bits BinOp.or IntKind.u32 (IntKind.u32.wrap (IntKind.u32.wrap (intOf ((es.getD (nat_lit 0) []).getD (0 : Nat) AV.junk)) * (2 : Int) ^ min (Int.toNat (16 : Int)) IntKind.u32.bits)) (IntKind.u32.wrap (IntKind.u32.wrap (intOf ((es.getD (nat_lit 1) []).getD (0 : Nat) AV.junk)) * (2 : Int) ^ min (Int.toNat (8 : Int)) IntKind.u32.bits))) (IntKind.u32.wrap (intOf ((es.getD (nat_lit 2) []).getD (0 : Nat) AV.junk))))
noncomputable def vev24_1 (tk : Tk) (es : List (List AV)) : Int := bif decide ((↑es.length : Int) < (9 : Int)) then (0 : Int) else intOf ((es.getD (nat_lit 3) []).getD (0 : Nat) AV.junk)
noncomputable def vev24_2 (tk : Tk) (es : List (List AV)) : Int := bif decide ((↑es.length : Int) < (9 : Int)) then (0 : Int) else intOf ((es.getD (nat_lit 4) []).getD (0 : Nat) AV.junk)
noncomputable def vev24_3 (tk : Tk) (es : List (List AV)) : Int := bif decide ((↑es.length : Int) < (9 : Int)) then (0 : Int) else IntKind.i64.wrap (bits BinOp.and IntKind.u32 (bits BinOp.or IntKind.u32 (bits BinOp.or IntKind.u32 (bits BinOp.or IntKind.u32 (IntKind.u32.wrap (IntKind.u32.wrap (intOf ((es.getD (nat_lit 5) []).getD (0 : Nat) AV.junk)) * (2 : Int) ^ min (Int.toNat (24 : Int)) IntKind.u32.bits)) (IntKind.u32.wrap (IntKind.u32.wrap (intOf ((es.getD (nat_lit 6) []).getD (0 : Nat) AV.junk)) * (2 : Int) ^ min (Int.toNat (16 : Int)) IntKind.u32.bits))) (IntKind.u32.wrap (IntKind.u32.wrap (intOf ((es.getD (nat_lit 7) []).getD (0 : Nat) AV.junk)) * (2 : Int) ^ min (Int.toNat (8 : Int)) IntKind.u32.bits))) (IntKind.u32.wrap (intOf ((es.getD (nat_lit 8) []).getD (0 : Nat) AV.junk)))) (2147483647 : Int))
noncomputable def vev24_4 (tk : Tk) (es : List (List AV)) : Int := bif decide ((↑es.length : Int) < (9 : Int)) then (3 : Int) else (0 : Int)
noncomputable def vev24_5 (tk : Tk) (es : List (List AV)) : Bool := bif decide ((↑es.length : Int) < (9 : Int)) then true else bif decide ((9 : Nat) ≤ es.length) then true else false
theorem ev24 (tk : Tk) (es : List (List AV)) : evFin (cfg Try.prog tab 100000 (gk k17r 30) noLsp 24 ([] : List Blk).length Try.f24.ntmps) ([] : List Blk).length Try.f24.resultTypes.toList Try.f24 [.sl tk [.int .u8] es] [] = bif vev24_5 tk es then some (true, AV.tup [AV.agg [AV.int IntKind.i64 (vev24_0 tk es), AV.int IntKind.u8 (vev24_1 tk es), AV.int IntKind.u8 (vev24_2 tk es), AV.int IntKind.i64 (vev24_3 tk es)], AV.int IntKind.i64 (vev24_4 tk es)], []) else none := by
  have h : evFin (cfg Try.prog tab 100000 (gk k17r 30) noLsp 24 ([] : List Blk).length Try.f24.ntmps) ([] : List Blk).length Try.f24.resultTypes.toList Try.f24 [.sl tk [.int .u8] es] [] = bif decide ((↑es.length : Int) < (9 : Int)) then some (true, AV.tup [AV.agg [AV.int IntKind.i64 (0 : Int), AV.int IntKind.u8 (0 : Int), AV.int IntKind.u8 (0 : Int), AV.int IntKind.i64 (0 : Int)], AV.int IntKind.i64 (3 : Int)], []) else bif decide ((9 : Nat) ≤ es.length) then some (true, AV.tup [AV.agg [AV.int IntKind.i64 (IntKind.i64.wrap (bits BinOp.or IntKind.u32 (bits BinOp.or IntKind.u32 (IntKind.u32.wrap (IntKind.u32.wrap (intOf ((es.getD (nat_lit 0) []).getD (0 : Nat) AV.junk)) * (2 : Int) ^ min (Int.toNat (16 : Int)) IntKind.u32.bits)) (IntKind.u32.wrap (IntKind.u32.wrap (intOf ((es.getD (nat_lit 1) []).getD (0 : Nat) AV.junk)) * (2 : Int) ^ min (Int.toNat (8 : Int)) IntKind.u32.bits))) (IntKind.u32.wrap (intOf ((es.getD (nat_lit 2) []).getD (0 : Nat) AV.junk))))), AV.int IntKind.u8 (intOf ((es.getD (nat_lit 3) []).getD (0 : Nat) AV.junk)), AV.int IntKind.u8 (intOf ((es.getD (nat_lit 4) []).getD (0 : Nat) AV.junk)), AV.int IntKind.i64 (IntKind.i64.wrap (bits BinOp.and IntKind.u32 (bits BinOp.or IntKind.u32 (bits BinOp.or IntKind.u32 (bits BinOp.or IntKind.u32 (IntKind.u32.wrap (IntKind.u32.wrap (intOf ((es.getD (nat_lit 5) []).getD (0 : Nat) AV.junk)) * (2 : Int) ^ min (Int.toNat (24 : Int)) IntKind.u32.bits)) (IntKind.u32.wrap (IntKind.u32.wrap (intOf ((es.getD (nat_lit 6) []).getD (0 : Nat) AV.junk)) * (2 : Int) ^ min (Int.toNat (16 : Int)) IntKind.u32.bits))) (IntKind.u32.wrap (IntKind.u32.wrap (intOf ((es.getD (nat_lit 7) []).getD (0 : Nat) AV.junk)) * (2 : Int) ^ min (Int.toNat (8 : Int)) IntKind.u32.bits))) (IntKind.u32.wrap (intOf ((es.getD (nat_lit 8) []).getD (0 : Nat) AV.junk)))) (2147483647 : Int)))], AV.int IntKind.i64 (0 : Int)], []) else none := by kernel_rfl
  rw [h]
  clear h
  unfold vev24_0 vev24_1 vev24_2 vev24_3 vev24_4 vev24_5
  generalize (decide ((↑es.length : Int) < (9 : Int))) = c0
  generalize (decide ((9 : Nat) ≤ es.length)) = c1
  cases c0
  · skip
    cases c1
    · skip
      rfl
    · skip
      rfl
  · skip
    rfl
-- spec vev24_5 tk es ;; (true, AV.tup [AV.agg [AV.int IntKind.i64 (vev24_0 tk es), AV.int IntKind.u8 (vev24_1 tk es), AV.int IntKind.u8 (vev24_2 tk es), AV.int IntKind.i64 (vev24_3 tk es)], AV.int IntKind.i64 (vev24_4 tk es)], [])
noncomputable def sp24 : List AV → List Blk → Option (Bool × AV × List Blk)
  | [.sl tk [.int .u8] es], [] => spW (vev24_5 tk es) (some ((true, AV.tup [AV.agg [AV.int IntKind.i64 (vev24_0 tk es), AV.int IntKind.u8 (vev24_1 tk es), AV.int IntKind.u8 (vev24_2 tk es), AV.int IntKind.i64 (vev24_3 tk es)], AV.int IntKind.i64 (vev24_4 tk es)], [])))
  | _, _ => none
noncomputable def k24 : Gam := fun f T C => match Nat.beq f 24 with
  | true => (sp24 T C).or (k17r f T C)
  | false => k17r f T C
theorem k24_ok : GamOK Try.prog k24 := by
  intro f T C r outs h
  unfold k24 at h
  cases hf : Nat.beq f 24 with
  | false => rw [hf] at h; exact k17r_ok f T C r outs h
  | true =>
    have hf' := Nat.eq_of_beq_eq_true hf
    subst hf'
    rw [hf] at h
    dsimp only at h
    cases hs : sp24 T C with
    | none => rw [hs] at h; exact k17r_ok _ T C r outs h
    | some x =>
      rw [hs] at h
      have hx : x = (true, r, outs) := by simpa using h
      subst hx
      unfold sp24 at hs
      split at hs
      · rename_i tk es
        obtain ⟨hb, rfl, rfl⟩ := spT_inv hs
        have he := ev24 tk es
        rw [hb, cond_true] at he
        obtain ⟨r0, o0, h0, he⟩ := evFin_inv he
        obtain ⟨h1, h2⟩ := fn_ok mixed plain (gk_ok k17r_ok 30) Try.func24 (fun c _ => LoopsOK.none (fun _ _ => rfl) c) h0
        exact ⟨h1, h2.fin he⟩
      · cases hs
noncomputable def rev17m_0 (t : Int) (g : Int) (n : Int) (d : List UInt8) (pa : Int) (de : Int) (so : Bool) (we : Int) (co : Int) (la : Int) (inc : Int) (ps : List (List AV)) : Int := vev19_0 t g n d pa de so we co la inc ps
noncomputable def rev17m_1 (t : Int) (g : Int) (n : Int) (d : List UInt8) (pa : Int) (de : Int) (so : Bool) (we : Int) (co : Int) (la : Int) (inc : Int) (ps : List (List AV)) : List (List AV) := vev45_0 t g n d pa de so we co la inc ps
noncomputable def rev17m_2 (t : Int) (g : Int) (n : Int) (d : List UInt8) (pa : Int) (de : Int) (so : Bool) (we : Int) (co : Int) (la : Int) (inc : Int) (ps : List (List AV)) : Int := (↑(rev17m_1 t g n d pa de so we co la inc ps).length : Int)
noncomputable def rev17m_3 (t : Int) (g : Int) (n : Int) (d : List UInt8) (pa : Int) (de : Int) (so : Bool) (we : Int) (co : Int) (la : Int) (inc : Int) (ps : List (List AV)) : Int := IntKind.u32.wrap (rev17m_2 t g n d pa de so we co la inc ps)
theorem ev17m (t : Int) (g : Int) (n : Int) (d : List UInt8) (pa : Int) (de : Int) (so : Bool) (we : Int) (co : Int) (la : Int) (inc : Int) (ps : List (List AV)) : evFun (cfg Try.prog tab 100000 (gk k24 30) noLsp 17 ([] : List Blk).length Try.f17.ntmps) Try.f17 [.agg [.int .u8 t, .int .u8 g, .int .i64 n, .str d, .int .i64 pa, .int .i64 de, .bool so, .int .u8 we, .int .u32 co, .int .i64 la, .int .i64 inc, .sl .imm [.int .u16, .int .u32] ps]] [] = bif vev19_1 t g n d pa de so we co la inc ps then bif rev17m_0 t g n d pa de so we co la inc ps != (0 : Int) then some (AV.tup [AV.nil, AV.int IntKind.i64 (rev17m_0 t g n d pa de so we co la inc ps)], []) else bif vev45_1 t g n d pa de so we co la inc ps then bif hB (rev17m_2 t g n d pa de so we co la inc ps) n then bif bif decide (((hR (rev17m_2 t g n d pa de so we co la inc ps) t g n).length + (rev17m_1 t g n d pa de so we co la inc ps).length) * (1 : Nat) ≤ (140737488355328 : Nat)) then decide ((hR (rev17m_2 t g n d pa de so we co la inc ps) t g n).length + (rev17m_1 t g n d pa de so we co la inc ps).length ≤ (9223372036854775807 : Nat)) else false then some (AV.tup [AV.rf (nat_lit 0) [Kd.int IntKind.u8], AV.int IntKind.i64 (0 : Int)], [Blk.row [Kd.int IntKind.u8] ([AV.int IntKind.u8 (IntKind.u8.wrap ((rev17m_3 t g n d pa de so we co la inc ps).fdiv ((2 : Int) ^ min (Int.toNat (16 : Int)) IntKind.u32.bits)))] :: [AV.int IntKind.u8 (IntKind.u8.wrap ((rev17m_3 t g n d pa de so we co la inc ps).fdiv ((2 : Int) ^ min (Int.toNat (8 : Int)) IntKind.u32.bits)))] :: [AV.int IntKind.u8 (IntKind.u8.wrap (rev17m_3 t g n d pa de so we co la inc ps))] :: [AV.int IntKind.u8 t] :: [AV.int IntKind.u8 g] :: [AV.int IntKind.u8 (IntKind.u8.wrap ((IntKind.u32.wrap n).fdiv ((2 : Int) ^ min (Int.toNat (24 : Int)) IntKind.u32.bits)))] :: [AV.int IntKind.u8 (IntKind.u8.wrap ((IntKind.u32.wrap n).fdiv ((2 : Int) ^ min (Int.toNat (16 : Int)) IntKind.u32.bits)))] :: [AV.int IntKind.u8 (IntKind.u8.wrap ((IntKind.u32.wrap n).fdiv ((2 : Int) ^ min (Int.toNat (8 : Int)) IntKind.u32.bits)))] :: [AV.int IntKind.u8 (IntKind.u8.wrap (IntKind.u32.wrap n))] :: rev17m_1 t g n d pa de so we co la inc ps)]) else none else none else none else none := by kernel_rfl
/-- The bytes of a frame that may be put. -/
noncomputable def bR (t g n : Int) (d : List UInt8) (pa de : Int) (so : Bool) (we co la inc : Int) (ps : List (List AV)) : List (List AV) := hR ((vev45_0 t g n d pa de so we co la inc ps).length : Int) t g n ++ vev45_0 t g n d pa de so we co la inc ps
theorem ev17s (t g n : Int) (d : List UInt8) (pa de : Int) (so : Bool) (we co la inc : Int) (ps : List (List AV)) (h1 : vev17r_2 t g n d pa de so we co la inc ps = true) (h0 : vev19_0 t g n d pa de so we co la inc ps = 0) : evFun (cfg Try.prog tab 100000 (gk k24 30) noLsp 17 ([] : List Blk).length Try.f17.ntmps) Try.f17 [.agg [.int .u8 t, .int .u8 g, .int .i64 n, .str d, .int .i64 pa, .int .i64 de, .bool so, .int .u8 we, .int .u32 co, .int .i64 la, .int .i64 inc, .sl .imm [.int .u16, .int .u32] ps]] [] = some (AV.tup [AV.rf (nat_lit 0) [Kd.int IntKind.u8], AV.int IntKind.i64 (0 : Int)], [Blk.row [Kd.int IntKind.u8] (bR t g n d pa de so we co la inc ps)]) := by
  rw [ev17m]
  unfold vev17r_2 rev17r_0 rev17r_2 rev17r_1 at h1
  unfold rev17m_0 rev17m_2 rev17m_1
  have hq : ((0 : Int) != 0) = false := rfl
  rw [h0, hq] at h1 ⊢
  cases a1 : vev19_1 t g n d pa de so we co la inc ps with
  | false => rw [a1] at h1; cases h1
  | true =>
    rw [a1, cond_true, cond_false] at h1
    cases a2 : vev45_1 t g n d pa de so we co la inc ps with
    | false => rw [a2] at h1; cases h1
    | true =>
      rw [a2, cond_true] at h1
      cases a3 : hB ((vev45_0 t g n d pa de so we co la inc ps).length : Int) n with
      | false => rw [a3] at h1; cases h1
      | true =>
        rw [a3, cond_true] at h1
        rw [cond_true, cond_false, cond_true, cond_true]
        generalize (bif decide (((hR ((vev45_0 t g n d pa de so we co la inc ps).length : Int) t g n).length + (vev45_0 t g n d pa de so we co la inc ps).length) * (1 : Nat) ≤ (140737488355328 : Nat)) then decide ((hR ((vev45_0 t g n d pa de so we co la inc ps).length : Int) t g n).length + (vev45_0 t g n d pa de so we co la inc ps).length ≤ (9223372036854775807 : Nat)) else false) = c at h1 ⊢
        cases c with
        | false => cases h1
        | true => rfl
/-- frame.Put of a frame that may be put: a row of its own. -/
noncomputable def sp17s : List AV → List Blk → Option (Bool × AV × List Blk)
  | [.agg [.int .u8 t, .int .u8 g, .int .i64 n, .str d, .int .i64 pa, .int .i64 de, .bool so, .int .u8 we, .int .u32 co, .int .i64 la, .int .i64 inc, .sl .imm [.int .u16, .int .u32] ps]], [] => some (vev17r_2 t g n d pa de so we co la inc ps && vev19_0 t g n d pa de so we co la inc ps == 0, AV.tup [AV.rf (nat_lit 0) [Kd.int IntKind.u8], AV.int IntKind.i64 (0 : Int)], [Blk.row [Kd.int IntKind.u8] (bR t g n d pa de so we co la inc ps)])
  | _, _ => none
noncomputable def k17s : Gam := fun f T C => match Nat.beq f 17 with
  | true => (sp17s T C).or (k24 f T C)
  | false => k24 f T C
theorem k17s_ok : GamOK Try.prog k17s := by
  intro f T C r outs h
  unfold k17s at h
  cases hf : Nat.beq f 17 with
  | false => rw [hf] at h; exact k24_ok f T C r outs h
  | true =>
    have hf' := Nat.eq_of_beq_eq_true hf
    subst hf'
    rw [hf] at h
    dsimp only at h
    cases hs : sp17s T C with
    | none => rw [hs] at h; exact k24_ok _ T C r outs h
    | some x =>
      rw [hs] at h
      have hx : x = (true, r, outs) := by simpa using h
      subst hx
      unfold sp17s at hs
      split at hs
      · rename_i t g n d pa de so we co la inc ps
        injection hs with hs
        injection hs with hb hs
        injection hs with e1 e2
        subst e1 e2
        simp only [Bool.and_eq_true, beq_iff_eq] at hb
        exact fn_ok mixed plain (gk_ok k24_ok 30) Try.func17 (fun c _ => LoopsOK.none (fun _ _ => rfl) c) (ev17s t g n d pa de so we co la inc ps hb.1 hb.2)
      · cases hs
/-- frame.Put of a frame that may not be put. -/
noncomputable def sp17e : List AV → List Blk → Option (Bool × AV × List Blk)
  | [.agg [.int .u8 t, .int .u8 g, .int .i64 n, .str d, .int .i64 pa, .int .i64 de, .bool so, .int .u8 we, .int .u32 co, .int .i64 la, .int .i64 inc, .sl .imm [.int .u16, .int .u32] ps]], [] => some (vev17r_2 t g n d pa de so we co la inc ps && decide (1 ≤ vev19_0 t g n d pa de so we co la inc ps), AV.tup [AV.sl Tk.imm [Kd.int IntKind.u8] [], AV.int IntKind.i64 (((vev19_0 t g n d pa de so we co la inc ps).toNat - 1 + 1 : Nat) : Int)], [])
  | _, _ => none
noncomputable def k17e : Gam := fun f T C => match Nat.beq f 17 with
  | true => (sp17e T C).or (k24 f T C)
  | false => k24 f T C
theorem k17e_ok : GamOK Try.prog k17e := by
  intro f T C r outs h
  unfold k17e at h
  cases hf : Nat.beq f 17 with
  | false => rw [hf] at h; exact k24_ok f T C r outs h
  | true =>
    have hf' := Nat.eq_of_beq_eq_true hf
    subst hf'
    rw [hf] at h
    dsimp only at h
    cases hs : sp17e T C with
    | none => rw [hs] at h; exact k24_ok _ T C r outs h
    | some x =>
      rw [hs] at h
      have hx : x = (true, r, outs) := by simpa using h
      subst hx
      unfold sp17e at hs
      split at hs
      · rename_i t g n d pa de so we co la inc ps
        injection hs with hs
        injection hs with hb hs
        injection hs with e1 e2
        subst e1 e2
        simp only [Bool.and_eq_true, decide_eq_true_eq] at hb
        have he := ev17r t g n d pa de so we co la inc ps
        have hne : (rev17r_0 t g n d pa de so we co la inc ps != (0 : Int)) = true := by
          unfold rev17r_0
          exact bne_iff_ne.2 (by omega)
        have e0 : vev17r_0 t g n d pa de so we co la inc ps = [] := by unfold vev17r_0; rw [hne]; rfl
        have e1 : vev17r_1 t g n d pa de so we co la inc ps = (((vev19_0 t g n d pa de so we co la inc ps).toNat - 1 + 1 : Nat) : Int) := by
          unfold vev17r_1
          rw [hne, cond_true]
          unfold rev17r_0
          omega
        rw [hb.1, cond_true, e0, e1] at he
        obtain ⟨r0, o0, h0, he⟩ := evFin_inv he
        obtain ⟨h1, h2⟩ := fn_ok mixed plain (gk_ok k46r_ok 30) Try.func17 (fun c _ => LoopsOK.none (fun _ _ => rfl) c) h0
        exact ⟨h1, h2.fin he⟩
      · cases hs
/-- A frame is light. -/
noncomputable def sp16t : List AV → List Blk → Option (Bool × AV × List Blk)
  | [.agg [.int .u8 t, .int .u8 g, .int .i64 n, .str d, .int .i64 pa, .int .i64 de, .bool so, .int .u8 we, .int .u32 co, .int .i64 la, .int .i64 inc, .sl .imm [.int .u16, .int .u32] ps]], [] => some (vev16_0 t g n d pa de so we co la inc ps == true, AV.bool true, [])
  | _, _ => none
noncomputable def k16t : Gam := fun f T C => match Nat.beq f 16 with
  | true => (sp16t T C).or (k17s f T C)
  | false => k17s f T C
theorem k16t_ok : GamOK Try.prog k16t := by
  intro f T C r outs h
  unfold k16t at h
  cases hf : Nat.beq f 16 with
  | false => rw [hf] at h; exact k17s_ok f T C r outs h
  | true =>
    have hf' := Nat.eq_of_beq_eq_true hf
    subst hf'
    rw [hf] at h
    dsimp only at h
    cases hs : sp16t T C with
    | none => rw [hs] at h; exact k17s_ok _ T C r outs h
    | some x =>
      rw [hs] at h
      have hx : x = (true, r, outs) := by simpa using h
      subst hx
      unfold sp16t at hs
      split at hs
      · rename_i t g n d pa de so we co la inc ps
        injection hs with hs
        injection hs with hb hs
        injection hs with e1 e2
        subst e1 e2
        have hb : vev16_0 t g n d pa de so we co la inc ps = true := by simpa using hb
        have he := ev16 t g n d pa de so we co la inc ps
        rw [hb] at he
        obtain ⟨r0, o0, h0, he⟩ := evFin_inv he
        obtain ⟨h1, h2⟩ := fn_ok mixed plain (gk_ok k23n_ok 30) Try.func16 (fun c _ => LoopsOK.none (fun _ _ => rfl) c) h0
        exact ⟨h1, h2.fin he⟩
      · cases hs
/-- A frame is light, or not: it is not. -/
noncomputable def sp16f : List AV → List Blk → Option (Bool × AV × List Blk)
  | [.agg [.int .u8 t, .int .u8 g, .int .i64 n, .str d, .int .i64 pa, .int .i64 de, .bool so, .int .u8 we, .int .u32 co, .int .i64 la, .int .i64 inc, .sl .imm [.int .u16, .int .u32] ps]], [] => some (vev16_0 t g n d pa de so we co la inc ps == false, AV.bool false, [])
  | _, _ => none
noncomputable def k16f : Gam := fun f T C => match Nat.beq f 16 with
  | true => (sp16f T C).or (k17s f T C)
  | false => k17s f T C
theorem k16f_ok : GamOK Try.prog k16f := by
  intro f T C r outs h
  unfold k16f at h
  cases hf : Nat.beq f 16 with
  | false => rw [hf] at h; exact k17s_ok f T C r outs h
  | true =>
    have hf' := Nat.eq_of_beq_eq_true hf
    subst hf'
    rw [hf] at h
    dsimp only at h
    cases hs : sp16f T C with
    | none => rw [hs] at h; exact k17s_ok _ T C r outs h
    | some x =>
      rw [hs] at h
      have hx : x = (true, r, outs) := by simpa using h
      subst hx
      unfold sp16f at hs
      split at hs
      · rename_i t g n d pa de so we co la inc ps
        injection hs with hs
        injection hs with hb hs
        injection hs with e1 e2
        subst e1 e2
        have hb : vev16_0 t g n d pa de so we co la inc ps = false := by simpa using hb
        have he := ev16 t g n d pa de so we co la inc ps
        rw [hb] at he
        obtain ⟨r0, o0, h0, he⟩ := evFin_inv he
        obtain ⟨h1, h2⟩ := fn_ok mixed plain (gk_ok k23n_ok 30) Try.func16 (fun c _ => LoopsOK.none (fun _ _ => rfl) c) h0
        exact ⟨h1, h2.fin he⟩
      · cases hs
end Go.Proofs.Gv
