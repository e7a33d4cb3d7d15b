import Derived.Test.YtndephedgodneaaGt
import Derived.KernelRfl
import Derived.Test.YtndephedgodneaaGpFr3
import Derived.Test.YtndephedgodneaaGwF
import Derived.Test.YtndephedgodneaaGaFr8b
namespace Go.Proofs.Gv
open Go.Proofs
set_option linter.unusedVariables false
theorem x52_0 (g n : Int) (d : List UInt8) (pa de : Int) (so : Bool) (we co la inc : Int) (ps : List (List AV)) (hg : 0 ≤ g ∧ g ≤ 255) : vev52v0_0 g n d pa de so we co la inc ps = vev50_0 (0 : Int) g n d pa de so we co la inc ps := by
  have f8 := (r55 (allB_at 256 has8 g hg.1 (by omega))).1
  have f32 := (r55 (allB_at 256 has32 g hg.1 (by omega))).1
  have f1 := (r55 (allB_at 256 has1 g hg.1 (by omega))).1
  simp only [vev52v0_0, vev50_0, vev61_0, vev68_0, vev64_0, vev65_0, vev56_0, f8, f32, f1, Int.reduceBEq, Int.reduceBNe, Int.reduceLE, decide_true, decide_false, cond_true, cond_false]
  generalize (bits BinOp.and IntKind.u8 g 8 != (0 : Int)) = b0
  generalize (bits BinOp.and IntKind.u8 g 32 != (0 : Int)) = b1
  generalize (bits BinOp.and IntKind.u8 g 1 != (0 : Int)) = b2
  generalize (pa != (0 : Int)) = b3
  generalize (de != (0 : Int)) = b4
  generalize (we != (0 : Int)) = b5
  generalize (co != (0 : Int)) = b6
  generalize (la != (0 : Int)) = b7
  generalize (inc != (0 : Int)) = b8
  generalize (decide ((↑ps.length : Int) > (0 : Int))) = b9
  generalize (d == (ByteArray.mk #[]).data.toList) = b10
  generalize ((↑d.length : Int) != (8 : Int)) = b11
  clear f8 f32 f1 hg
  revert so b0 b1 b2 b3 b4 b5 b6 b7 b8 b9 b10 b11
  decide
theorem x52_1 (g n : Int) (d : List UInt8) (pa de : Int) (so : Bool) (we co la inc : Int) (ps : List (List AV)) (hg : 0 ≤ g ∧ g ≤ 255) : vev52v1_0 g n d pa de so we co la inc ps = vev50_0 (1 : Int) g n d pa de so we co la inc ps := by
  have f8 := (r55 (allB_at 256 has8 g hg.1 (by omega))).1
  have f32 := (r55 (allB_at 256 has32 g hg.1 (by omega))).1
  have f1 := (r55 (allB_at 256 has1 g hg.1 (by omega))).1
  simp only [vev52v1_0, vev50_0, vev61_0, vev68_0, vev64_0, vev65_0, vev56_0, f8, f32, f1, Int.reduceBEq, Int.reduceBNe, Int.reduceLE, decide_true, decide_false, cond_true, cond_false]
  generalize (bits BinOp.and IntKind.u8 g 8 != (0 : Int)) = b0
  generalize (bits BinOp.and IntKind.u8 g 32 != (0 : Int)) = b1
  generalize (bits BinOp.and IntKind.u8 g 1 != (0 : Int)) = b2
  generalize (pa != (0 : Int)) = b3
  generalize (de != (0 : Int)) = b4
  generalize (we != (0 : Int)) = b5
  generalize (co != (0 : Int)) = b6
  generalize (la != (0 : Int)) = b7
  generalize (inc != (0 : Int)) = b8
  generalize (decide ((↑ps.length : Int) > (0 : Int))) = b9
  generalize (d == (ByteArray.mk #[]).data.toList) = b10
  generalize ((↑d.length : Int) != (8 : Int)) = b11
  clear f8 f32 f1 hg
  revert so b0 b1 b2 b3 b4 b5 b6 b7 b8 b9 b10 b11
  decide
theorem x52_2 (g n : Int) (d : List UInt8) (pa de : Int) (so : Bool) (we co la inc : Int) (ps : List (List AV)) (hg : 0 ≤ g ∧ g ≤ 255) : vev52v2_0 g n d pa de so we co la inc ps = vev50_0 (2 : Int) g n d pa de so we co la inc ps := by
  have f8 := (r55 (allB_at 256 has8 g hg.1 (by omega))).1
  have f32 := (r55 (allB_at 256 has32 g hg.1 (by omega))).1
  have f1 := (r55 (allB_at 256 has1 g hg.1 (by omega))).1
  simp only [vev52v2_0, vev50_0, vev61_0, vev68_0, vev64_0, vev65_0, vev56_0, f8, f32, f1, Int.reduceBEq, Int.reduceBNe, Int.reduceLE, decide_true, decide_false, cond_true, cond_false]
  generalize (bits BinOp.and IntKind.u8 g 8 != (0 : Int)) = b0
  generalize (bits BinOp.and IntKind.u8 g 32 != (0 : Int)) = b1
  generalize (bits BinOp.and IntKind.u8 g 1 != (0 : Int)) = b2
  generalize (pa != (0 : Int)) = b3
  generalize (de != (0 : Int)) = b4
  generalize (we != (0 : Int)) = b5
  generalize (co != (0 : Int)) = b6
  generalize (la != (0 : Int)) = b7
  generalize (inc != (0 : Int)) = b8
  generalize (decide ((↑ps.length : Int) > (0 : Int))) = b9
  generalize (d == (ByteArray.mk #[]).data.toList) = b10
  generalize ((↑d.length : Int) != (8 : Int)) = b11
  clear f8 f32 f1 hg
  revert so b0 b1 b2 b3 b4 b5 b6 b7 b8 b9 b10 b11
  decide
theorem x52_3 (g n : Int) (d : List UInt8) (pa de : Int) (so : Bool) (we co la inc : Int) (ps : List (List AV)) (hg : 0 ≤ g ∧ g ≤ 255) : vev52v3_0 g n d pa de so we co la inc ps = vev50_0 (3 : Int) g n d pa de so we co la inc ps := by
  have f8 := (r55 (allB_at 256 has8 g hg.1 (by omega))).1
  have f32 := (r55 (allB_at 256 has32 g hg.1 (by omega))).1
  have f1 := (r55 (allB_at 256 has1 g hg.1 (by omega))).1
  simp only [vev52v3_0, vev50_0, vev61_0, vev68_0, vev64_0, vev65_0, vev56_0, f8, f32, f1, Int.reduceBEq, Int.reduceBNe, Int.reduceLE, decide_true, decide_false, cond_true, cond_false]
  generalize (bits BinOp.and IntKind.u8 g 8 != (0 : Int)) = b0
  generalize (bits BinOp.and IntKind.u8 g 32 != (0 : Int)) = b1
  generalize (bits BinOp.and IntKind.u8 g 1 != (0 : Int)) = b2
  generalize (pa != (0 : Int)) = b3
  generalize (de != (0 : Int)) = b4
  generalize (we != (0 : Int)) = b5
  generalize (co != (0 : Int)) = b6
  generalize (la != (0 : Int)) = b7
  generalize (inc != (0 : Int)) = b8
  generalize (decide ((↑ps.length : Int) > (0 : Int))) = b9
  generalize (d == (ByteArray.mk #[]).data.toList) = b10
  generalize ((↑d.length : Int) != (8 : Int)) = b11
  clear f8 f32 f1 hg
  revert so b0 b1 b2 b3 b4 b5 b6 b7 b8 b9 b10 b11
  decide
theorem x52_4 (g n : Int) (d : List UInt8) (pa de : Int) (so : Bool) (we co la inc : Int) (ps : List (List AV)) (hg : 0 ≤ g ∧ g ≤ 255) : vev52v4_0 g n d pa de so we co la inc ps = vev50_0 (4 : Int) g n d pa de so we co la inc ps := by
  have f8 := (r55 (allB_at 256 has8 g hg.1 (by omega))).1
  have f32 := (r55 (allB_at 256 has32 g hg.1 (by omega))).1
  have f1 := (r55 (allB_at 256 has1 g hg.1 (by omega))).1
  simp only [vev52v4_0, vev50_0, vev61_0, vev68_0, vev64_0, vev65_0, vev56_0, f8, f32, f1, Int.reduceBEq, Int.reduceBNe, Int.reduceLE, decide_true, decide_false, cond_true, cond_false]
  generalize (bits BinOp.and IntKind.u8 g 8 != (0 : Int)) = b0
  generalize (bits BinOp.and IntKind.u8 g 32 != (0 : Int)) = b1
  generalize (bits BinOp.and IntKind.u8 g 1 != (0 : Int)) = b2
  generalize (pa != (0 : Int)) = b3
  generalize (de != (0 : Int)) = b4
  generalize (we != (0 : Int)) = b5
  generalize (co != (0 : Int)) = b6
  generalize (la != (0 : Int)) = b7
  generalize (inc != (0 : Int)) = b8
  generalize (decide ((↑ps.length : Int) > (0 : Int))) = b9
  generalize (d == (ByteArray.mk #[]).data.toList) = b10
  generalize ((↑d.length : Int) != (8 : Int)) = b11
  clear f8 f32 f1 hg
  revert so b0 b1 b2 b3 b4 b5 b6 b7 b8 b9 b10 b11
  decide
theorem x52_5 (g n : Int) (d : List UInt8) (pa de : Int) (so : Bool) (we co la inc : Int) (ps : List (List AV)) (hg : 0 ≤ g ∧ g ≤ 255) : vev52v5_0 g n d pa de so we co la inc ps = vev50_0 (5 : Int) g n d pa de so we co la inc ps := by
  have f8 := (r55 (allB_at 256 has8 g hg.1 (by omega))).1
  have f32 := (r55 (allB_at 256 has32 g hg.1 (by omega))).1
  have f1 := (r55 (allB_at 256 has1 g hg.1 (by omega))).1
  simp only [vev52v5_0, vev50_0, vev61_0, vev68_0, vev64_0, vev65_0, vev56_0, f8, f32, f1, Int.reduceBEq, Int.reduceBNe, Int.reduceLE, decide_true, decide_false, cond_true, cond_false]
  generalize (bits BinOp.and IntKind.u8 g 8 != (0 : Int)) = b0
  generalize (bits BinOp.and IntKind.u8 g 32 != (0 : Int)) = b1
  generalize (bits BinOp.and IntKind.u8 g 1 != (0 : Int)) = b2
  generalize (pa != (0 : Int)) = b3
  generalize (de != (0 : Int)) = b4
  generalize (we != (0 : Int)) = b5
  generalize (co != (0 : Int)) = b6
  generalize (la != (0 : Int)) = b7
  generalize (inc != (0 : Int)) = b8
  generalize (decide ((↑ps.length : Int) > (0 : Int))) = b9
  generalize (d == (ByteArray.mk #[]).data.toList) = b10
  generalize ((↑d.length : Int) != (8 : Int)) = b11
  clear f8 f32 f1 hg
  revert so b0 b1 b2 b3 b4 b5 b6 b7 b8 b9 b10 b11
  decide
theorem x52_6 (g n : Int) (d : List UInt8) (pa de : Int) (so : Bool) (we co la inc : Int) (ps : List (List AV)) (hg : 0 ≤ g ∧ g ≤ 255) : vev52v6_0 g n d pa de so we co la inc ps = vev50_0 (6 : Int) g n d pa de so we co la inc ps := by
  have f8 := (r55 (allB_at 256 has8 g hg.1 (by omega))).1
  have f32 := (r55 (allB_at 256 has32 g hg.1 (by omega))).1
  have f1 := (r55 (allB_at 256 has1 g hg.1 (by omega))).1
  simp only [vev52v6_0, vev50_0, vev61_0, vev68_0, vev64_0, vev65_0, vev56_0, f8, f32, f1, Int.reduceBEq, Int.reduceBNe, Int.reduceLE, decide_true, decide_false, cond_true, cond_false]
  generalize (bits BinOp.and IntKind.u8 g 8 != (0 : Int)) = b0
  generalize (bits BinOp.and IntKind.u8 g 32 != (0 : Int)) = b1
  generalize (bits BinOp.and IntKind.u8 g 1 != (0 : Int)) = b2
  generalize (pa != (0 : Int)) = b3
  generalize (de != (0 : Int)) = b4
  generalize (we != (0 : Int)) = b5
  generalize (co != (0 : Int)) = b6
  generalize (la != (0 : Int)) = b7
  generalize (inc != (0 : Int)) = b8
  generalize (decide ((↑ps.length : Int) > (0 : Int))) = b9
  generalize (d == (ByteArray.mk #[]).data.toList) = b10
  generalize ((↑d.length : Int) != (8 : Int)) = b11
  clear f8 f32 f1 hg
  revert so b0 b1 b2 b3 b4 b5 b6 b7 b8 b9 b10 b11
  decide
theorem x52_7 (g n : Int) (d : List UInt8) (pa de : Int) (so : Bool) (we co la inc : Int) (ps : List (List AV)) (hg : 0 ≤ g ∧ g ≤ 255) : vev52v7_0 g n d pa de so we co la inc ps = vev50_0 (7 : Int) g n d pa de so we co la inc ps := by
  have f8 := (r55 (allB_at 256 has8 g hg.1 (by omega))).1
  have f32 := (r55 (allB_at 256 has32 g hg.1 (by omega))).1
  have f1 := (r55 (allB_at 256 has1 g hg.1 (by omega))).1
  simp only [vev52v7_0, vev50_0, vev61_0, vev68_0, vev64_0, vev65_0, vev56_0, f8, f32, f1, Int.reduceBEq, Int.reduceBNe, Int.reduceLE, decide_true, decide_false, cond_true, cond_false]
  generalize (bits BinOp.and IntKind.u8 g 8 != (0 : Int)) = b0
  generalize (bits BinOp.and IntKind.u8 g 32 != (0 : Int)) = b1
  generalize (bits BinOp.and IntKind.u8 g 1 != (0 : Int)) = b2
  generalize (pa != (0 : Int)) = b3
  generalize (de != (0 : Int)) = b4
  generalize (we != (0 : Int)) = b5
  generalize (co != (0 : Int)) = b6
  generalize (la != (0 : Int)) = b7
  generalize (inc != (0 : Int)) = b8
  generalize (decide ((↑ps.length : Int) > (0 : Int))) = b9
  generalize (d == (ByteArray.mk #[]).data.toList) = b10
  generalize ((↑d.length : Int) != (8 : Int)) = b11
  clear f8 f32 f1 hg
  revert so b0 b1 b2 b3 b4 b5 b6 b7 b8 b9 b10 b11
  decide
theorem x52_8 (g n : Int) (d : List UInt8) (pa de : Int) (so : Bool) (we co la inc : Int) (ps : List (List AV)) (hg : 0 ≤ g ∧ g ≤ 255) : vev52v8_0 g n d pa de so we co la inc ps = vev50_0 (8 : Int) g n d pa de so we co la inc ps := by
  have f8 := (r55 (allB_at 256 has8 g hg.1 (by omega))).1
  have f32 := (r55 (allB_at 256 has32 g hg.1 (by omega))).1
  have f1 := (r55 (allB_at 256 has1 g hg.1 (by omega))).1
  simp only [vev52v8_0, vev50_0, vev61_0, vev68_0, vev64_0, vev65_0, vev56_0, f8, f32, f1, Int.reduceBEq, Int.reduceBNe, Int.reduceLE, decide_true, decide_false, cond_true, cond_false]
  generalize (bits BinOp.and IntKind.u8 g 8 != (0 : Int)) = b0
  generalize (bits BinOp.and IntKind.u8 g 32 != (0 : Int)) = b1
  generalize (bits BinOp.and IntKind.u8 g 1 != (0 : Int)) = b2
  generalize (pa != (0 : Int)) = b3
  generalize (de != (0 : Int)) = b4
  generalize (we != (0 : Int)) = b5
  generalize (co != (0 : Int)) = b6
  generalize (la != (0 : Int)) = b7
  generalize (inc != (0 : Int)) = b8
  generalize (decide ((↑ps.length : Int) > (0 : Int))) = b9
  generalize (d == (ByteArray.mk #[]).data.toList) = b10
  generalize ((↑d.length : Int) != (8 : Int)) = b11
  clear f8 f32 f1 hg
  revert so b0 b1 b2 b3 b4 b5 b6 b7 b8 b9 b10 b11
  decide
theorem x52_x (k : Nat) (g n : Int) (d : List UInt8) (pa de : Int) (so : Bool) (we co la inc : Int) (ps : List (List AV)) (hg : 0 ≤ g ∧ g ≤ 255) : vev52vx_0 k g n d pa de so we co la inc ps = vev50_0 ((k + 9 : Nat) : Int) g n d pa de so we co la inc ps := by
  have f8 := (r55 (allB_at 256 has8 g hg.1 (by omega))).1
  have f32 := (r55 (allB_at 256 has32 g hg.1 (by omega))).1
  have f1 := (r55 (allB_at 256 has1 g hg.1 (by omega))).1
  have t0 : (((k + 9 : Nat) : Int) == 0) = false := beq_eq_false_iff_ne.2 (by omega)
  have u0 : (((k + 9 : Nat) : Int) != 0) = true := bne_iff_ne.2 (by omega)
  have t1 : (((k + 9 : Nat) : Int) == 1) = false := beq_eq_false_iff_ne.2 (by omega)
  have u1 : (((k + 9 : Nat) : Int) != 1) = true := bne_iff_ne.2 (by omega)
  have t2 : (((k + 9 : Nat) : Int) == 2) = false := beq_eq_false_iff_ne.2 (by omega)
  have u2 : (((k + 9 : Nat) : Int) != 2) = true := bne_iff_ne.2 (by omega)
  have t3 : (((k + 9 : Nat) : Int) == 3) = false := beq_eq_false_iff_ne.2 (by omega)
  have u3 : (((k + 9 : Nat) : Int) != 3) = true := bne_iff_ne.2 (by omega)
  have t4 : (((k + 9 : Nat) : Int) == 4) = false := beq_eq_false_iff_ne.2 (by omega)
  have u4 : (((k + 9 : Nat) : Int) != 4) = true := bne_iff_ne.2 (by omega)
  have t6 : (((k + 9 : Nat) : Int) == 6) = false := beq_eq_false_iff_ne.2 (by omega)
  have u6 : (((k + 9 : Nat) : Int) != 6) = true := bne_iff_ne.2 (by omega)
  have t7 : (((k + 9 : Nat) : Int) == 7) = false := beq_eq_false_iff_ne.2 (by omega)
  have u7 : (((k + 9 : Nat) : Int) != 7) = true := bne_iff_ne.2 (by omega)
  have t8 : (((k + 9 : Nat) : Int) == 8) = false := beq_eq_false_iff_ne.2 (by omega)
  have u8 : (((k + 9 : Nat) : Int) != 8) = true := bne_iff_ne.2 (by omega)
  simp only [vev52vx_0, vev50_0, vev61_0, vev68_0, vev64_0, vev65_0, vev56_0, f8, f32, f1, Int.reduceBEq, Int.reduceBNe, Int.reduceLE, decide_true, decide_false, cond_true, cond_false, t0, u0, t1, u1, t2, u2, t3, u3, t4, u4, t6, u6, t7, u7, t8, u8]
  generalize (bits BinOp.and IntKind.u8 g 8 != (0 : Int)) = b0
  generalize (bits BinOp.and IntKind.u8 g 32 != (0 : Int)) = b1
  generalize (bits BinOp.and IntKind.u8 g 1 != (0 : Int)) = b2
  generalize (pa != (0 : Int)) = b3
  generalize (de != (0 : Int)) = b4
  generalize (we != (0 : Int)) = b5
  generalize (co != (0 : Int)) = b6
  generalize (la != (0 : Int)) = b7
  generalize (inc != (0 : Int)) = b8
  generalize (decide ((↑ps.length : Int) > (0 : Int))) = b9
  generalize (d == (ByteArray.mk #[]).data.toList) = b10
  generalize ((↑d.length : Int) != (8 : Int)) = b11
  clear f8 f32 f1 hg t0 u0 t1 u1 t2 u2 t3 u3 t4 u4 t6 u6 t7 u7 t8 u8
  revert so b0 b1 b2 b3 b4 b5 b6 b7 b8 b9 b10 b11
  decide
noncomputable def sp52 : List AV → List Blk → Option (Bool × AV × List Blk)
  | [.agg [.int .u8 t, .int .u8 g, .int .i64 n, .str d, .int .i64 pa, .int .i64 de, .bool so, .int .u8 we, .int .u32 co, .int .i64 la, .int .i64 inc, .sl .imm [.int .u16, .int .u32] ps]], [] => some (decide ((0 : Int) ≤ t) && (decide ((0 : Int) ≤ g) && decide (g ≤ (255 : Int))), AV.bool (vev50_0 t g n d pa de so we co la inc ps), [])
  | _, _ => none
noncomputable def k52 : Gam := fun f T C => match Nat.beq f 52 with
  | true => (sp52 T C).or (k47 f T C)
  | false => k47 f T C
theorem k52_ok : GamOK Try.prog k52 := by
  intro f T C r outs h
  unfold k52 at h
  cases hf : Nat.beq f 52 with
  | false => rw [hf] at h; exact k47_ok f T C r outs h
  | true =>
    have hf' := Nat.eq_of_beq_eq_true hf
    subst hf'
    rw [hf] at h
    dsimp only at h
    cases hs : sp52 T C with
    | none => rw [hs] at h; exact k47_ok _ T C r outs h
    | some x =>
      rw [hs] at h
      have hx : x = (true, r, outs) := by simpa using h
      subst hx
      unfold sp52 at hs
      split at hs
      · rename_i t g n d pa de so we co la inc ps
        injection hs with hs
        injection hs with hb hs
        injection hs with e1 e2
        subst e1 e2
        simp only [Bool.and_eq_true, decide_eq_true_eq] at hb
        have hg := hb.2
        have fin : ∀ {T : List AV} {b : Bool}, evFin (cfg Try.prog tab 100000 (gk k68 30) noLsp 52 ([] : List Blk).length Try.f52.ntmps) ([] : List Blk).length Try.f52.resultTypes.toList Try.f52 T [] = some (true, AV.bool b, []) → Enters Try.prog 52 ∧ FnOK Try.prog 52 T [] (AV.bool b) [] := by
          intro T b he
          obtain ⟨r0, o0, h0, he⟩ := evFin_inv he
          obtain ⟨h1, h2⟩ := fn_ok mixed plain (gk_ok k68_ok 30) Try.func52 (fun c _ => LoopsOK.none (fun _ _ => rfl) c) h0
          exact ⟨h1, h2.fin he⟩
        have hx : t = 0 ∨ t = 1 ∨ t = 2 ∨ t = 3 ∨ t = 4 ∨ t = 5 ∨ t = 6 ∨ t = 7 ∨ t = 8 ∨ t = (((t - 9).toNat + 9 : Nat) : Int) := by omega
        rcases hx with e | e | e | e | e | e | e | e | e | e
        · subst e
          rw [← x52_0 g n d pa de so we co la inc ps hg]
          exact fin (ev52v0 g n d pa de so we co la inc ps)
        · subst e
          rw [← x52_1 g n d pa de so we co la inc ps hg]
          exact fin (ev52v1 g n d pa de so we co la inc ps)
        · subst e
          rw [← x52_2 g n d pa de so we co la inc ps hg]
          exact fin (ev52v2 g n d pa de so we co la inc ps)
        · subst e
          rw [← x52_3 g n d pa de so we co la inc ps hg]
          exact fin (ev52v3 g n d pa de so we co la inc ps)
        · subst e
          rw [← x52_4 g n d pa de so we co la inc ps hg]
          exact fin (ev52v4 g n d pa de so we co la inc ps)
        · subst e
          rw [← x52_5 g n d pa de so we co la inc ps hg]
          exact fin (ev52v5 g n d pa de so we co la inc ps)
        · subst e
          rw [← x52_6 g n d pa de so we co la inc ps hg]
          exact fin (ev52v6 g n d pa de so we co la inc ps)
        · subst e
          rw [← x52_7 g n d pa de so we co la inc ps hg]
          exact fin (ev52v7 g n d pa de so we co la inc ps)
        · subst e
          rw [← x52_8 g n d pa de so we co la inc ps hg]
          exact fin (ev52v8 g n d pa de so we co la inc ps)
        · rw [e, ← x52_x _ g n d pa de so we co la inc ps hg]
          exact fin (ev52vx _ g n d pa de so we co la inc ps)
      · cases hs
noncomputable def rev20_0 (t g n : Int) (d : List UInt8) (pa de : Int) (so : Bool) (we co la inc : Int) (ps : List (List AV)) : Int := (↑(vev47_0 t g n d pa de so we co la inc ps).length : Int)
noncomputable def vev20_0 (t g n : Int) (d : List UInt8) (pa de : Int) (so : Bool) (we co la inc : Int) (ps : List (List AV)) : Int := bif bif !vev51_0 n then true else bif !vev51_0 de then true else bif !vev51_0 la then true else bif !vev51_0 inc then true else bif decide (pa < (0 : Int)) then true else decide (pa > (255 : Int)) then (8 : Int) else bif vev50_0 t g n d pa de so we co la inc ps then (4 : Int) else bif decide (rev20_0 t g n d pa de so we co la inc ps > (16384 : Int)) then (5 : Int) else (0 : Int)
noncomputable def vev20_1 (t g n : Int) (d : List UInt8) (pa de : Int) (so : Bool) (we co la inc : Int) (ps : List (List AV)) : Bool := bif bif !vev51_0 n then true else bif !vev51_0 de then true else bif !vev51_0 la then true else bif !vev51_0 inc then true else bif decide (pa < (0 : Int)) then true else decide (pa > (255 : Int)) then true else bif decide ((0 : Int) ≤ t) && (decide ((0 : Int) ≤ g) && decide (g ≤ (255 : Int))) then bif vev50_0 t g n d pa de so we co la inc ps then true else bif vev47_1 t g n d pa de so we co la inc ps then true else false else false
theorem ev20 (t g n : Int) (d : List UInt8) (pa de : Int) (so : Bool) (we co la inc : Int) (ps : List (List AV)) : evFin (cfg Try.prog tab 100000 (gk k52 30) noLsp 20 ([] : List Blk).length Try.f20.ntmps) ([] : List Blk).length Try.f20.resultTypes.toList Try.f20 [.agg [.int .u8 t, .int .u8 g, .int .i64 n, .str d, .int .i64 pa, .int .i64 de, .bool so, .int .u8 we, .int .u32 co, .int .i64 la, .int .i64 inc, .sl .imm [.int .u16, .int .u32] ps]] [] = bif vev20_1 t g n d pa de so we co la inc ps then some (true, AV.int IntKind.i64 (vev20_0 t g n d pa de so we co la inc ps), []) else none := by
  have h : evFin (cfg Try.prog tab 100000 (gk k52 30) noLsp 20 ([] : List Blk).length Try.f20.ntmps) ([] : List Blk).length Try.f20.resultTypes.toList Try.f20 [.agg [.int .u8 t, .int .u8 g, .int .i64 n, .str d, .int .i64 pa, .int .i64 de, .bool so, .int .u8 we, .int .u32 co, .int .i64 la, .int .i64 inc, .sl .imm [.int .u16, .int .u32] ps]] [] = bif bif !vev51_0 n then true else bif bif false then true else !vev51_0 de then true else bif bif false then true else !vev51_0 la then true else bif bif false then true else !vev51_0 inc then true else bif bif false then true else decide (pa < (0 : Int)) then true else true then bif bif !vev51_0 n then true else bif bif false then true else !vev51_0 de then true else bif bif false then true else !vev51_0 la then true else bif bif false then true else !vev51_0 inc then true else bif bif false then true else decide (pa < (0 : Int)) then true else bif false then true else decide (pa > (255 : Int)) then some (true, AV.int IntKind.i64 (8 : Int), []) else bif decide ((0 : Int) ≤ t) && (decide ((0 : Int) ≤ g) && decide (g ≤ (255 : Int))) then bif vev50_0 t g n d pa de so we co la inc ps then some (true, AV.int IntKind.i64 (4 : Int), []) else bif vev47_1 t g n d pa de so we co la inc ps then bif decide (rev20_0 t g n d pa de so we co la inc ps > (16384 : Int)) then some (true, AV.int IntKind.i64 (5 : Int), []) else some (true, AV.int IntKind.i64 (0 : Int), []) else none else none else none := by kernel_rfl
  rw [h]
  clear h
  unfold vev20_0 vev20_1
  generalize (decide ((0 : Int) ≤ t) && (decide ((0 : Int) ≤ g) && decide (g ≤ (255 : Int)))) = c0
  generalize (decide (rev20_0 t g n d pa de so we co la inc ps > (16384 : Int))) = c1
  generalize (decide (pa < (0 : Int))) = c2
  generalize (decide (pa > (255 : Int))) = c3
  generalize (vev50_0 t g n d pa de so we co la inc ps) = c4
  generalize (vev47_1 t g n d pa de so we co la inc ps) = c5
  generalize (!vev51_0 la) = c6
  generalize (!vev51_0 de) = c7
  generalize (!vev51_0 n) = c8
  generalize (!vev51_0 inc) = c9
  cases c8; cases c7; cases c6; cases c9; cases c2; cases c3; cases c0; rfl; cases c4; cases c5; rfl; cases c1; rfl; rfl; rfl; rfl; rfl; rfl; rfl; rfl
  rfl
-- spec vev20_1 t g n d pa de so we co la inc ps ;; (true, AV.int IntKind.i64 (vev20_0 t g n d pa de so we co la inc ps), [])
noncomputable def sp20 : List AV → List Blk → Option (Bool × AV × List Blk)
  | [.agg [.int .u8 t, .int .u8 g, .int .i64 n, .str d, .int .i64 pa, .int .i64 de, .bool so, .int .u8 we, .int .u32 co, .int .i64 la, .int .i64 inc, .sl .imm [.int .u16, .int .u32] ps]], [] => spW (vev20_1 t g n d pa de so we co la inc ps) (some ((true, AV.int IntKind.i64 (vev20_0 t g n d pa de so we co la inc ps), [])))
  | _, _ => none
noncomputable def k20 : Gam := fun f T C => match Nat.beq f 20 with
  | true => (sp20 T C).or (k52 f T C)
  | false => k52 f T C
theorem k20_ok : GamOK Try.prog k20 := by
  intro f T C r outs h
  unfold k20 at h
  cases hf : Nat.beq f 20 with
  | false => rw [hf] at h; exact k52_ok f T C r outs h
  | true =>
    have hf' := Nat.eq_of_beq_eq_true hf
    subst hf'
    rw [hf] at h
    dsimp only at h
    cases hs : sp20 T C with
    | none => rw [hs] at h; exact k52_ok _ T C r outs h
    | some x =>
      rw [hs] at h
      have hx : x = (true, r, outs) := by simpa using h
      subst hx
      unfold sp20 at hs
      split at hs
      · rename_i t g n d pa de so we co la inc ps
        obtain ⟨hb, rfl, rfl⟩ := spT_inv hs
        have he := ev20 t g n d pa de so we co la inc ps
        rw [hb, cond_true] at he
        obtain ⟨r0, o0, h0, he⟩ := evFin_inv he
        obtain ⟨h1, h2⟩ := fn_ok mixed plain (gk_ok k52_ok 30) Try.func20 (fun c _ => LoopsOK.none (fun _ _ => rfl) c) h0
        exact ⟨h1, h2.fin he⟩
      · cases hs
noncomputable def vev70_0 (l t g n : Int) : Int := bif bif decide (l < (0 : Int)) then true else bif decide (l > (16777215 : Int)) then true else bif decide (n < (0 : Int)) then true else decide (n > (2147483647 : Int)) then (8 : Int) else (0 : Int)
theorem ev70 (l t g n : Int) : evFin (cfg Try.prog tab 100000 (gk k20 30) noLsp 70 ([] : List Blk).length Try.f70.ntmps) ([] : List Blk).length Try.f70.resultTypes.toList Try.f70 [.agg [.int .i64 l, .int .u8 t, .int .u8 g, .int .i64 n]] [] = bif true then some (true, AV.int IntKind.i64 (vev70_0 l t g n), []) else none := by
  have h : evFin (cfg Try.prog tab 100000 (gk k20 30) noLsp 70 ([] : List Blk).length Try.f70.ntmps) ([] : List Blk).length Try.f70.resultTypes.toList Try.f70 [.agg [.int .i64 l, .int .u8 t, .int .u8 g, .int .i64 n]] [] = bif bif decide (l < (0 : Int)) then true else bif bif false then true else decide (l > (16777215 : Int)) then true else bif bif false then true else decide (n < (0 : Int)) then true else true then bif bif decide (l < (0 : Int)) then true else bif bif false then true else decide (l > (16777215 : Int)) then true else bif bif false then true else decide (n < (0 : Int)) then true else bif false then true else decide (n > (2147483647 : Int)) then some (true, AV.int IntKind.i64 (8 : Int), []) else some (true, AV.int IntKind.i64 (0 : Int), []) else none := by kernel_rfl
  rw [h]
  clear h
  unfold vev70_0
  generalize (decide (n > (2147483647 : Int))) = c0
  generalize (decide (l < (0 : Int))) = c1
  generalize (decide (l > (16777215 : Int))) = c2
  generalize (decide (n < (0 : Int))) = c3
  cases c1; cases c2; cases c3; cases c0; rfl; rfl; rfl; rfl; rfl
-- spec true ;; (true, AV.int IntKind.i64 (vev70_0 l t g n), [])
noncomputable def sp70 : List AV → List Blk → Option (Bool × AV × List Blk)
  | [.agg [.int .i64 l, .int .u8 t, .int .u8 g, .int .i64 n]], [] => spW (true) (some ((true, AV.int IntKind.i64 (vev70_0 l t g n), [])))
  | _, _ => none
noncomputable def k70 : Gam := fun f T C => match Nat.beq f 70 with
  | true => (sp70 T C).or (k20 f T C)
  | false => k20 f T C
theorem k70_ok : GamOK Try.prog k70 := by
  intro f T C r outs h
  unfold k70 at h
  cases hf : Nat.beq f 70 with
  | false => rw [hf] at h; exact k20_ok f T C r outs h
  | true =>
    have hf' := Nat.eq_of_beq_eq_true hf
    subst hf'
    rw [hf] at h
    dsimp only at h
    cases hs : sp70 T C with
    | none => rw [hs] at h; exact k20_ok _ T C r outs h
    | some x =>
      rw [hs] at h
      have hx : x = (true, r, outs) := by simpa using h
      subst hx
      unfold sp70 at hs
      split at hs
      · rename_i l t g n
        obtain ⟨hb, rfl, rfl⟩ := spT_inv hs
        have he := ev70 l t g n
        obtain ⟨r0, o0, h0, he⟩ := evFin_inv he
        obtain ⟨h1, h2⟩ := fn_ok mixed plain (gk_ok k20_ok 30) Try.func70 (fun c _ => LoopsOK.none (fun _ _ => rfl) c) h0
        exact ⟨h1, h2.fin he⟩
      · cases hs
/-- ref.Put of a head, where the head is in range: a row of its own. -/
noncomputable def hW (l t g n : Int) : List (List AV) := [wB l 2, wB l 1, wB l 0, [AV.int IntKind.u8 t], [AV.int IntKind.u8 g], wB n 3, wB n 2, wB n 1, wB n 0]
theorem ev48r (l t g n : Int) : evFun (cfg Try.prog tab 100000 (gk k70 30) noLsp 48 ([] : List Blk).length Try.f48.ntmps) Try.f48 [.agg [.int .i64 l, .int .u8 t, .int .u8 g, .int .i64 n]] [] = bif vev70_0 l t g n != (0 : Int) then some (AV.tup [.nil, AV.int IntKind.i64 (vev70_0 l t g n)], []) else some (AV.tup [AV.rf (nat_lit 0) [Kd.int IntKind.u8], AV.int IntKind.i64 0], [Blk.row [Kd.int IntKind.u8] (hW l t g n)]) := by kernel_rfl
noncomputable def sp48r : List AV → List Blk → Option (Bool × AV × List Blk)
  | [.agg [.int .i64 l, .int .u8 t, .int .u8 g, .int .i64 n]], [] => some (vev70_0 l t g n == 0, AV.tup [AV.rf (nat_lit 0) [Kd.int IntKind.u8], AV.int IntKind.i64 0], [Blk.row [Kd.int IntKind.u8] (hW l t g n)])
  | _, _ => none
noncomputable def k48r : Gam := fun f T C => match Nat.beq f 48 with
  | true => (sp48r T C).or (k70 f T C)
  | false => k70 f T C
theorem k48r_ok : GamOK Try.prog k48r := by
  intro f T C r outs h
  unfold k48r at h
  cases hf : Nat.beq f 48 with
  | false => rw [hf] at h; exact k70_ok f T C r outs h
  | true =>
    have hf' := Nat.eq_of_beq_eq_true hf
    subst hf'
    rw [hf] at h
    dsimp only at h
    cases hs : sp48r T C with
    | none => rw [hs] at h; exact k70_ok _ T C r outs h
    | some x =>
      rw [hs] at h
      have hx : x = (true, r, outs) := by simpa using h
      subst hx
      unfold sp48r at hs
      split at hs
      · rename_i l t g n
        injection hs with hs
        injection hs with hb hs
        injection hs with e1 e2
        subst e1 e2
        have he := ev48r l t g n
        have hv : (vev70_0 l t g n != (0 : Int)) = false := by rw [bne, hb]; rfl
        rw [hv, cond_false] at he
        exact fn_ok mixed plain (gk_ok k70_ok 30) Try.func48 (fun c _ => LoopsOK.none (fun _ _ => rfl) c) he
      · cases hs
noncomputable def rev18_0 (t g n : Int) (d : List UInt8) (pa de : Int) (so : Bool) (we co la inc : Int) (ps : List (List AV)) : Int := vev20_0 t g n d pa de so we co la inc ps
noncomputable def rev18_1 (t g n : Int) (d : List UInt8) (pa de : Int) (so : Bool) (we co la inc : Int) (ps : List (List AV)) : List (List AV) := vev47_0 t g n d pa de so we co la inc ps
noncomputable def rev18_2 (t g n : Int) (d : List UInt8) (pa de : Int) (so : Bool) (we co la inc : Int) (ps : List (List AV)) : Int := (↑(rev18_1 t g n d pa de so we co la inc ps).length : Int)
noncomputable def vev18_0 (t g n : Int) (d : List UInt8) (pa de : Int) (so : Bool) (we co la inc : Int) (ps : List (List AV)) : List (List AV) := bif rev18_0 t g n d pa de so we co la inc ps != (0 : Int) then [] else [AV.int IntKind.u8 (IntKind.u8.wrap ((wQ (rev18_2 t g n d pa de so we co la inc ps) (2 : Nat)).tmod (256 : Int)))] :: [AV.int IntKind.u8 (IntKind.u8.wrap ((wQ (rev18_2 t g n d pa de so we co la inc ps) (1 : Nat)).tmod (256 : Int)))] :: [AV.int IntKind.u8 (IntKind.u8.wrap ((wQ (rev18_2 t g n d pa de so we co la inc ps) (0 : Nat)).tmod (256 : Int)))] :: [AV.int IntKind.u8 t] :: [AV.int IntKind.u8 g] :: [AV.int IntKind.u8 (IntKind.u8.wrap ((wQ n (3 : Nat)).tmod (256 : Int)))] :: [AV.int IntKind.u8 (IntKind.u8.wrap ((wQ n (2 : Nat)).tmod (256 : Int)))] :: [AV.int IntKind.u8 (IntKind.u8.wrap ((wQ n (1 : Nat)).tmod (256 : Int)))] :: [AV.int IntKind.u8 (IntKind.u8.wrap ((wQ n (0 : Nat)).tmod (256 : Int)))] :: rev18_1 t g n d pa de so we co la inc ps
noncomputable def vev18_1 (t g n : Int) (d : List UInt8) (pa de : Int) (so : Bool) (we co la inc : Int) (ps : List (List AV)) : Int := bif rev18_0 t g n d pa de so we co la inc ps != (0 : Int) then rev18_0 t g n d pa de so we co la inc ps else (0 : Int)
noncomputable def vev18_2 (t g n : Int) (d : List UInt8) (pa de : Int) (so : Bool) (we co la inc : Int) (ps : List (List AV)) : Bool := bif vev20_1 t g n d pa de so we co la inc ps then bif rev18_0 t g n d pa de so we co la inc ps != (0 : Int) then true else bif vev47_1 t g n d pa de so we co la inc ps then bif vev70_0 (rev18_2 t g n d pa de so we co la inc ps) t g n == (0 : Int) then bif bif decide (((hW (rev18_2 t g n d pa de so we co la inc ps) t g n).length + (rev18_1 t g n d pa de so we co la inc ps).length) * (1 : Nat) ≤ (140737488355328 : Nat)) then decide ((hW (rev18_2 t g n d pa de so we co la inc ps) t g n).length + (rev18_1 t g n d pa de so we co la inc ps).length ≤ (9223372036854775807 : Nat)) else false then true else false else false else false else false
theorem ev18 (t g n : Int) (d : List UInt8) (pa de : Int) (so : Bool) (we co la inc : Int) (ps : List (List AV)) : evFin (cfg Try.prog tab 100000 (gk k48r 30) noLsp 18 ([] : List Blk).length Try.f18.ntmps) ([] : List Blk).length Try.f18.resultTypes.toList Try.f18 [.agg [.int .u8 t, .int .u8 g, .int .i64 n, .str d, .int .i64 pa, .int .i64 de, .bool so, .int .u8 we, .int .u32 co, .int .i64 la, .int .i64 inc, .sl .imm [.int .u16, .int .u32] ps]] [] = bif vev18_2 t g n d pa de so we co la inc ps then some (true, AV.tup [AV.sl Tk.imm [Kd.int IntKind.u8] (vev18_0 t g n d pa de so we co la inc ps), AV.int IntKind.i64 (vev18_1 t g n d pa de so we co la inc ps)], []) else none := by
  have h : evFin (cfg Try.prog tab 100000 (gk k48r 30) noLsp 18 ([] : List Blk).length Try.f18.ntmps) ([] : List Blk).length Try.f18.resultTypes.toList Try.f18 [.agg [.int .u8 t, .int .u8 g, .int .i64 n, .str d, .int .i64 pa, .int .i64 de, .bool so, .int .u8 we, .int .u32 co, .int .i64 la, .int .i64 inc, .sl .imm [.int .u16, .int .u32] ps]] [] = bif vev20_1 t g n d pa de so we co la inc ps then bif rev18_0 t g n d pa de so we co la inc ps != (0 : Int) then some (true, AV.tup [AV.sl Tk.imm [Kd.int IntKind.u8] [], AV.int IntKind.i64 (rev18_0 t g n d pa de so we co la inc ps)], []) else bif vev47_1 t g n d pa de so we co la inc ps then bif vev70_0 (rev18_2 t g n d pa de so we co la inc ps) t g n == (0 : Int) then bif bif decide (((hW (rev18_2 t g n d pa de so we co la inc ps) t g n).length + (rev18_1 t g n d pa de so we co la inc ps).length) * (1 : Nat) ≤ (140737488355328 : Nat)) then decide ((hW (rev18_2 t g n d pa de so we co la inc ps) t g n).length + (rev18_1 t g n d pa de so we co la inc ps).length ≤ (9223372036854775807 : Nat)) else false then some (true, AV.tup [AV.sl Tk.imm [Kd.int IntKind.u8] ([AV.int IntKind.u8 (IntKind.u8.wrap ((wQ (rev18_2 t g n d pa de so we co la inc ps) (2 : Nat)).tmod (256 : Int)))] :: [AV.int IntKind.u8 (IntKind.u8.wrap ((wQ (rev18_2 t g n d pa de so we co la inc ps) (1 : Nat)).tmod (256 : Int)))] :: [AV.int IntKind.u8 (IntKind.u8.wrap ((wQ (rev18_2 t g n d pa de so we co la inc ps) (0 : Nat)).tmod (256 : Int)))] :: [AV.int IntKind.u8 t] :: [AV.int IntKind.u8 g] :: [AV.int IntKind.u8 (IntKind.u8.wrap ((wQ n (3 : Nat)).tmod (256 : Int)))] :: [AV.int IntKind.u8 (IntKind.u8.wrap ((wQ n (2 : Nat)).tmod (256 : Int)))] :: [AV.int IntKind.u8 (IntKind.u8.wrap ((wQ n (1 : Nat)).tmod (256 : Int)))] :: [AV.int IntKind.u8 (IntKind.u8.wrap ((wQ n (0 : Nat)).tmod (256 : Int)))] :: rev18_1 t g n d pa de so we co la inc ps), AV.int IntKind.i64 (0 : Int)], []) else none else none else none else none := by kernel_rfl
  rw [h]
  clear h
  unfold vev18_0 vev18_1 vev18_2
  generalize (decide (((hW (rev18_2 t g n d pa de so we co la inc ps) t g n).length + (rev18_1 t g n d pa de so we co la inc ps).length) * (1 : Nat) ≤ (140737488355328 : Nat))) = c0
  generalize (decide ((hW (rev18_2 t g n d pa de so we co la inc ps) t g n).length + (rev18_1 t g n d pa de so we co la inc ps).length ≤ (9223372036854775807 : Nat))) = c1
  generalize (vev70_0 (rev18_2 t g n d pa de so we co la inc ps) t g n == (0 : Int)) = c2
  generalize (rev18_0 t g n d pa de so we co la inc ps != (0 : Int)) = c3
  generalize (vev20_1 t g n d pa de so we co la inc ps) = c4
  generalize (vev47_1 t g n d pa de so we co la inc ps) = c5
  cases c4; rfl; cases c3; cases c5; rfl; cases c2; rfl; cases c0; rfl; cases c1; rfl; rfl; rfl
-- spec vev18_2 t g n d pa de so we co la inc ps ;; (true, AV.tup [AV.sl Tk.imm [Kd.int IntKind.u8] (vev18_0 t g n d pa de so we co la inc ps), AV.int IntKind.i64 (vev18_1 t g n d pa de so we co la inc ps)], [])
noncomputable def sp18 : List AV → List Blk → Option (Bool × AV × List Blk)
  | [.agg [.int .u8 t, .int .u8 g, .int .i64 n, .str d, .int .i64 pa, .int .i64 de, .bool so, .int .u8 we, .int .u32 co, .int .i64 la, .int .i64 inc, .sl .imm [.int .u16, .int .u32] ps]], [] => spW (vev18_2 t g n d pa de so we co la inc ps) (some ((true, AV.tup [AV.sl Tk.imm [Kd.int IntKind.u8] (vev18_0 t g n d pa de so we co la inc ps), AV.int IntKind.i64 (vev18_1 t g n d pa de so we co la inc ps)], [])))
  | _, _ => none
noncomputable def k18 : Gam := fun f T C => match Nat.beq f 18 with
  | true => (sp18 T C).or (k48r f T C)
  | false => k48r f T C
theorem k18_ok : GamOK Try.prog k18 := by
  intro f T C r outs h
  unfold k18 at h
  cases hf : Nat.beq f 18 with
  | false => rw [hf] at h; exact k48r_ok f T C r outs h
  | true =>
    have hf' := Nat.eq_of_beq_eq_true hf
    subst hf'
    rw [hf] at h
    dsimp only at h
    cases hs : sp18 T C with
    | none => rw [hs] at h; exact k48r_ok _ T C r outs h
    | some x =>
      rw [hs] at h
      have hx : x = (true, r, outs) := by simpa using h
      subst hx
      unfold sp18 at hs
      split at hs
      · rename_i t g n d pa de so we co la inc ps
        obtain ⟨hb, rfl, rfl⟩ := spT_inv hs
        have he := ev18 t g n d pa de so we co la inc ps
        rw [hb, cond_true] at he
        obtain ⟨r0, o0, h0, he⟩ := evFin_inv he
        obtain ⟨h1, h2⟩ := fn_ok mixed plain (gk_ok k48r_ok 30) Try.func18 (fun c _ => LoopsOK.none (fun _ _ => rfl) c) h0
        exact ⟨h1, h2.fin he⟩
      · cases hs
noncomputable def vev22_0 (t g n : Int) (d : List UInt8) (pa de : Int) (so : Bool) (we co la inc : Int) (ps : List (List AV)) : Int := bif vev20_0 t g n d pa de so we co la inc ps != (0 : Int) then (0 : Int) else (↑(vev47_0 t g n d pa de so we co la inc ps).length : Int)
noncomputable def vev22_1 (t g n : Int) (d : List UInt8) (pa de : Int) (so : Bool) (we co la inc : Int) (ps : List (List AV)) : Bool := bif vev20_1 t g n d pa de so we co la inc ps then bif vev20_0 t g n d pa de so we co la inc ps != (0 : Int) then true else bif vev47_1 t g n d pa de so we co la inc ps then true else false else false
theorem ev22 (t g n : Int) (d : List UInt8) (pa de : Int) (so : Bool) (we co la inc : Int) (ps : List (List AV)) : evFin (cfg Try.prog tab 100000 (gk k18 30) noLsp 22 ([] : List Blk).length Try.f22.ntmps) ([] : List Blk).length Try.f22.resultTypes.toList Try.f22 [.agg [.int .u8 t, .int .u8 g, .int .i64 n, .str d, .int .i64 pa, .int .i64 de, .bool so, .int .u8 we, .int .u32 co, .int .i64 la, .int .i64 inc, .sl .imm [.int .u16, .int .u32] ps]] [] = bif vev22_1 t g n d pa de so we co la inc ps then some (true, AV.int IntKind.i64 (vev22_0 t g n d pa de so we co la inc ps), []) else none := by
  have h : evFin (cfg Try.prog tab 100000 (gk k18 30) noLsp 22 ([] : List Blk).length Try.f22.ntmps) ([] : List Blk).length Try.f22.resultTypes.toList Try.f22 [.agg [.int .u8 t, .int .u8 g, .int .i64 n, .str d, .int .i64 pa, .int .i64 de, .bool so, .int .u8 we, .int .u32 co, .int .i64 la, .int .i64 inc, .sl .imm [.int .u16, .int .u32] ps]] [] = bif vev20_1 t g n d pa de so we co la inc ps then bif vev20_0 t g n d pa de so we co la inc ps != (0 : Int) then some (true, AV.int IntKind.i64 (0 : Int), []) else bif vev47_1 t g n d pa de so we co la inc ps then some (true, AV.int IntKind.i64 (↑(vev47_0 t g n d pa de so we co la inc ps).length : Int), []) else none else none := by kernel_rfl
  rw [h]
  clear h
  unfold vev22_0 vev22_1
  generalize (vev20_0 t g n d pa de so we co la inc ps != (0 : Int)) = c0
  generalize (vev47_1 t g n d pa de so we co la inc ps) = c1
  generalize (vev20_1 t g n d pa de so we co la inc ps) = c2
  cases c2; rfl; cases c0; cases c1; rfl; rfl; rfl
-- spec vev22_1 t g n d pa de so we co la inc ps ;; (true, AV.int IntKind.i64 (vev22_0 t g n d pa de so we co la inc ps), [])
noncomputable def sp22 : List AV → List Blk → Option (Bool × AV × List Blk)
  | [.agg [.int .u8 t, .int .u8 g, .int .i64 n, .str d, .int .i64 pa, .int .i64 de, .bool so, .int .u8 we, .int .u32 co, .int .i64 la, .int .i64 inc, .sl .imm [.int .u16, .int .u32] ps]], [] => spW (vev22_1 t g n d pa de so we co la inc ps) (some ((true, AV.int IntKind.i64 (vev22_0 t g n d pa de so we co la inc ps), [])))
  | _, _ => none
noncomputable def k22 : Gam := fun f T C => match Nat.beq f 22 with
  | true => (sp22 T C).or (k18 f T C)
  | false => k18 f T C
theorem k22_ok : GamOK Try.prog k22 := by
  intro f T C r outs h
  unfold k22 at h
  cases hf : Nat.beq f 22 with
  | false => rw [hf] at h; exact k18_ok f T C r outs h
  | true =>
    have hf' := Nat.eq_of_beq_eq_true hf
    subst hf'
    rw [hf] at h
    dsimp only at h
    cases hs : sp22 T C with
    | none => rw [hs] at h; exact k18_ok _ T C r outs h
    | some x =>
      rw [hs] at h
      have hx : x = (true, r, outs) := by simpa using h
      subst hx
      unfold sp22 at hs
      split at hs
      · rename_i t g n d pa de so we co la inc ps
        obtain ⟨hb, rfl, rfl⟩ := spT_inv hs
        have he := ev22 t g n d pa de so we co la inc ps
        rw [hb, cond_true] at he
        obtain ⟨r0, o0, h0, he⟩ := evFin_inv he
        obtain ⟨h1, h2⟩ := fn_ok mixed plain (gk_ok k18_ok 30) Try.func22 (fun c _ => LoopsOK.none (fun _ _ => rfl) c) h0
        exact ⟨h1, h2.fin he⟩
      · cases hs
end Go.Proofs.Gv
